import Derived.Test.YtodlalolknldmaaCore
import Derived.Test.YtodlalolknldmaaProg
import Derived.Test.YtodlalolknldmaaHeld
import Derived.Test.YtodlalolknldmaaFun
import Derived.Test.YtodlalolknldmaaWc3
namespace Go.Proofs.Ytodlalolknldmaa.K
open Go.RowKit
set_option linter.unusedVariables false
set_option linter.unusedSimpArgs false
set_option maxRecDepth 100000
def F_spec_l9Copy (x_e : PEp) : (PEp) := { N := x_e.N, Key := x_e.Key, Seq := x_e.Seq, Win := (F_spec_l8Copy x_e.Win) : PEp }
theorem C_spec_l9Copy (w0 : World) (v_x_e : Value) (x_e : PEp) (r_x_e : R_27 w0 v_x_e x_e)  : Fn Try.prog 113 #[v_x_e] w0 (fun v w' => Keep w0 w' ∧ O_27 w' w0.heap.size v (F_spec_l9Copy x_e)) := by
  obtain ⟨a1, c2, a6, c7, rfl, r3, s4, r8, s9⟩ := r_x_e
  refine fn_of (n := 15) (l := [(.agg #[(.int .i64 x_e.N), (.slice a1 x_e.Key.length c2), (.int .i64 x_e.Seq), (.int .i64 x_e.Win.Top), (.slice a6 x_e.Win.Bits.length c7)]), undef, undef, undef, undef, undef, undef, undef, undef, undef, undef, undef, undef, undef, undef]) Try.func113 rfl rfl (by kernel_rfl) rfl ?_
  refine wc_seq ?_
  refine wc_region ?_
  refine wl_box (want_none rfl) [(.int .i64 x_e.N), (.slice a1 x_e.Key.length c2), (.int .i64 x_e.Seq), (.int .i64 x_e.Win.Top), (.slice a6 x_e.Win.Bits.length c7)] rfl rfl rfl rfl ?_
  intro g11 w1 p12 p13 k14 b15
  have m16 := (Ch.base w0).extk k14
  refine wl_alloc (want_none rfl) (.agg #[(.int .i64 0), (.slice none 0 0), (.int .i64 0), (.int .i64 0), (.slice none 0 0)]) [(.int .i64 0), (.slice none 0 0), (.int .i64 0), (.int .i64 0), (.slice none 0 0)] zero_27 rfl rfl rfl rfl ?_
  intro g17 w2 p18 p19 k20 b21
  have m22 := m16.extk k20
  refine wl_nil ?_
  refine wq_then ?_
  refine wc_seq ?_
  refine wc_draw ([(3, [], [], (fun _ v _ => v = (.pointer (some ⟨g11, 0, none⟩)))), (4, [], [0], (fun _ v _ => v = (.int .i64 x_e.N))), (5, [], [], (fun _ v w => ∃ a0 : Addr, v = .slice (some a0) 0 0 ∧ w.ownsRow w2.heap.size 5 1 (.slice (some a0) 0 0) 0 [])), (6, [], [], (fun _ v _ => v = (.pointer (some ⟨g11, 1, none⟩)))), (7, [], [3], (fun _ v _ => v = (.slice a1 x_e.Key.length c2))), (8, [], [2, 3, 4], (fun _ v w => ∃ (a1 : Option Addr) (c1 : Nat), v = .slice a1 x_e.Key.length c1 ∧ w.ownsRow w2.heap.size 5 1 (.slice a1 x_e.Key.length c1) x_e.Key.length (x_e.Key.map bV) ∧ x_e.Key.length ≤ 1073741824 ∧ Aps [(a1, c1)])), (9, [], [], (fun _ v _ => v = (.pointer (some ⟨g11, 2, none⟩)))), (10, [], [6], (fun _ v _ => v = (.int .i64 x_e.Seq))), (11, [], [], (fun _ v _ => v = (.pointer (some ⟨g11, 3, none⟩)))), (12, [], [8], (fun _ v _ => v = (.agg #[(.int .i64 x_e.Win.Top), (.slice a6 x_e.Win.Bits.length c7)]))), (13, [8], [2, 3, 4, 5, 8, 9], (fun e v w => ∃ (a1 : Option Addr) (c1 : Nat), v = .agg #[.int .i64 ((F_spec_l8Copy x_e.Win).Top), .slice a1 ((F_spec_l8Copy x_e.Win).Bits).length c1] ∧ w.ownsRow (w2.heap.size) 3 1 (.slice a1 ((F_spec_l8Copy x_e.Win).Bits).length c1) ((F_spec_l8Copy x_e.Win).Bits).length (((F_spec_l8Copy x_e.Win).Bits).map iV) ∧ ((F_spec_l8Copy x_e.Win).Bits).length ≤ 1073741824 ∧ Aps [(a1, c1)] ∧ Ap (sp (e 8)) (a1, c1))), (14, [8, 13], [0, 1, 2, 3, 4, 5, 6, 7, 8, 9, 10], (fun e v _ => v = (.agg #[(.int .i64 x_e.N), (e 8), (.int .i64 x_e.Seq), (.int .i64 ((F_spec_l8Copy x_e.Win).Top)), (cellAt (e 13) 1)])))] : GV) mixed rfl (by kernel_rfl) (by kernel_rfl) ?_ ?_ ?_
  · exact ⟨(fun _ _ _ _ h _ => h), (fun _ _ _ _ _ h => h), ⟨(fun _ _ _ _ h _ => h), (fun _ _ _ _ _ h => h), ⟨(fun e v w w1 h hk => by obtain ⟨a0x, he, o0x⟩ := h; exact ⟨a0x, he, own_kp o0x hk⟩), (fun _ _ _ _ _ h => h), ⟨(fun _ _ _ _ h _ => h), (fun _ _ _ _ _ h => h), ⟨(fun _ _ _ _ h _ => h), (fun _ _ _ _ _ h => h), ⟨(fun e v w w1 h hk => by obtain ⟨a0x, c0x, he, o0x, l0x, hap⟩ := h; exact ⟨a0x, c0x, he, own_kp o0x hk, l0x, hap⟩), (fun _ _ _ _ _ h => h), ⟨(fun _ _ _ _ h _ => h), (fun _ _ _ _ _ h => h), ⟨(fun _ _ _ _ h _ => h), (fun _ _ _ _ _ h => h), ⟨(fun _ _ _ _ h _ => h), (fun _ _ _ _ _ h => h), ⟨(fun _ _ _ _ h _ => h), (fun _ _ _ _ _ h => h), ⟨(fun e v w w1 h hk => by obtain ⟨a0x, c0x, he, o0x, l0x, hap, hx⟩ := h; exact ⟨a0x, c0x, he, own_kp o0x hk, l0x, hap, hx⟩), (fun e1 e2 v w hx h => by have h8x := hx 8 (by simp); simp only [h8x] at h; exact h), ⟨(fun _ _ _ _ h _ => h), (fun e1 e2 v w hx h => by have h8x := hx 8 (by simp); have h13x := hx 13 (by simp); simp only [h8x, h13x] at h; exact h), trivial⟩⟩⟩⟩⟩⟩⟩⟩⟩⟩⟩⟩
  · refine ⟨?_, ⟨?_, ⟨?_, ⟨?_, ⟨?_, ⟨?_, ⟨?_, ⟨?_, ⟨?_, ⟨?_, ⟨?_, ⟨?_, trivial⟩⟩⟩⟩⟩⟩⟩⟩⟩⟩⟩⟩
    · intro w3 k74
      have m75 := m22.extk k74
      intro u76
      intro u77
      intro u78
      intro u79
      intro u80
      intro u81
      intro u82
      intro u83
      intro u84
      intro u85
      intro u86
      intro u87
      show WL _ _ _ _ _ _ _
      refine wl_pure (.pointer (some ⟨g11, 0, none⟩)) (want_none rfl) rfl rfl (by kernel_rfl) ?_
      exact wl_fin (Ch.refl _ _) rfl
    · intro w3 k88
      have m89 := m22.extk k88
      rintro _ rfl
      intro u90
      intro u91
      intro u92
      intro u93
      intro u94
      intro u95
      intro u96
      intro u97
      intro u98
      intro u99
      intro u100
      show WL _ _ _ _ _ _ _
      have b101 := ((b15.kp k20).kp k88)
      refine wl_load1 (.int .i64 x_e.N) (want_none rfl) rfl rfl rfl rfl isAgg_3 b101 rfl ?_
      exact wl_fin (Ch.refl _ _) rfl
    · intro w3 k102
      have m103 := m22.extk k102
      intro u104
      intro u105
      intro u106
      intro u107
      intro u108
      intro u109
      intro u110
      intro u111
      intro u112
      intro u113
      intro u114
      intro u115
      show WL _ _ _ _ _ _ _
      refine wl_lit0 (want_none rfl) rfl rfl slTy_22 (fun w => by kernel_rfl) ?_
      intro a116 w4 k117 o118
      have m119 := m103.extk k117
      exact wl_fin k117 ⟨_, rfl, own_lo o118 k102.size⟩
    · intro w3 k121
      have m122 := m22.extk k121
      intro u123
      intro u124
      intro u125
      intro u126
      intro u127
      intro u128
      intro u129
      intro u130
      intro u131
      intro u132
      intro u133
      intro u134
      show WL _ _ _ _ _ _ _
      refine wl_pure (.pointer (some ⟨g11, 1, none⟩)) (want_none rfl) rfl rfl (by kernel_rfl) ?_
      exact wl_fin (Ch.refl _ _) rfl
    · intro w3 k135
      have m136 := m22.extk k135
      intro u137
      intro u138
      intro u139
      rintro _ rfl
      intro u140
      intro u141
      intro u142
      intro u143
      intro u144
      intro u145
      intro u146
      intro u147
      show WL _ _ _ _ _ _ _
      have b148 := ((b15.kp k20).kp k135)
      refine wl_load1 (.slice a1 x_e.Key.length c2) (want_none rfl) rfl rfl rfl rfl isAgg_22 b148 rfl ?_
      exact wl_fin (Ch.refl _ _) rfl
    · intro w3 k149
      have m150 := m22.extk k149
      intro u151
      intro u152
      rintro _ ⟨a153, rfl, o155⟩
      rintro _ rfl
      rintro _ rfl
      intro u159
      intro u160
      intro u161
      intro u162
      intro u163
      intro u164
      intro u165
      show WL _ _ _ _ _ _ _
      refine wl_append0 (want_none rfl) rfl rfl rfl slTy_22 rfl rfl o155 (r3.from0 m150) (all_bV _) (by (try simp only [List.length_append, List.length_cons, List.length_nil]); omega) (by simp only [maxLen]; (try simp only [List.length_append, List.length_cons, List.length_nil]); omega) k149.size ?_
      intro u166 w4 k167 o168 j169
      obtain ⟨a170, c171, rfl⟩ := own_form o168
      have n172 : New w3 a170 c171 := j169 _ _ rfl
      have m173 := m150.extk k167
      exact wl_fin k167 ⟨_, _, rfl, o168, s4, ⟨trivial, trivial⟩⟩
    · intro w3 k175
      have m176 := m22.extk k175
      intro u177
      intro u178
      intro u179
      intro u180
      intro u181
      intro u182
      intro u183
      intro u184
      intro u185
      intro u186
      intro u187
      intro u188
      show WL _ _ _ _ _ _ _
      refine wl_pure (.pointer (some ⟨g11, 2, none⟩)) (want_none rfl) rfl rfl (by kernel_rfl) ?_
      exact wl_fin (Ch.refl _ _) rfl
    · intro w3 k189
      have m190 := m22.extk k189
      intro u191
      intro u192
      intro u193
      intro u194
      intro u195
      intro u196
      rintro _ rfl
      intro u197
      intro u198
      intro u199
      intro u200
      intro u201
      show WL _ _ _ _ _ _ _
      have b202 := ((b15.kp k20).kp k189)
      refine wl_load1 (.int .i64 x_e.Seq) (want_none rfl) rfl rfl rfl rfl isAgg_3 b202 rfl ?_
      exact wl_fin (Ch.refl _ _) rfl
    · intro w3 k203
      have m204 := m22.extk k203
      intro u205
      intro u206
      intro u207
      intro u208
      intro u209
      intro u210
      intro u211
      intro u212
      intro u213
      intro u214
      intro u215
      intro u216
      show WL _ _ _ _ _ _ _
      refine wl_pure (.pointer (some ⟨g11, 3, none⟩)) (want_none rfl) rfl rfl (by kernel_rfl) ?_
      exact wl_fin (Ch.refl _ _) rfl
    · intro w3 k217
      have m218 := m22.extk k217
      intro u219
      intro u220
      intro u221
      intro u222
      intro u223
      intro u224
      intro u225
      intro u226
      rintro _ rfl
      intro u227
      intro u228
      intro u229
      show WL _ _ _ _ _ _ _
      have b230 := ((b15.kp k20).kp k217)
      refine wl_loadN [(.int .i64 x_e.Win.Top), (.slice a6 x_e.Win.Bits.length c7)] (want_none rfl) rfl rfl rfl rfl isAgg_25 sizeOf_25 b230 rfl ?_
      exact wl_fin (Ch.refl _ _) rfl
    · intro w3 k231
      have m232 := m22.extk k231
      intro u233
      intro u234
      rintro _ ⟨a235, rfl, o237⟩
      rintro _ rfl
      rintro _ rfl
      rintro _ ⟨a241, c242, rfl, o243, s244, -⟩
      intro u246
      intro u247
      rintro _ rfl
      rintro _ rfl
      intro u249
      intro u250
      show WL _ _ _ _ _ _ _
      refine wl_call (want_none rfl) (args := #[(.agg #[(.int .i64 x_e.Win.Top), (.slice a6 x_e.Win.Bits.length c7)])]) rfl rfl (by kernel_rfl) (C_spec_l8Copy w3 (.agg #[(.int .i64 x_e.Win.Top), (.slice a6 x_e.Win.Bits.length c7)]) x_e.Win (show R_25 w3 (.agg #[(.int .i64 x_e.Win.Top), (.slice a6 x_e.Win.Bits.length c7)]) x_e.Win from ⟨_, _, rfl, (r8.from0 m232), s9⟩)) ?_
      rintro _ w4 ⟨k251, ⟨a252, c253, rfl, o254, s255, ap257⟩⟩
      have m258 := m232.extk k251
      exact wl_fin k251 ⟨_, _, rfl, (own_lo o254 k231.size), s255, ap257, (Ap.lt o243 o254 (Nat.le_refl _))⟩
    · intro w3 k259
      have m260 := m22.extk k259
      rintro _ rfl
      rintro _ rfl
      rintro _ ⟨a262, rfl, o264⟩
      rintro _ rfl
      rintro _ rfl
      rintro _ ⟨a268, c269, rfl, o270, s271, -⟩
      rintro _ rfl
      rintro _ rfl
      rintro _ rfl
      rintro _ rfl
      rintro _ ⟨a275, c276, rfl, o277, s278, ap280, hx281⟩
      intro u282
      show WL _ _ _ _ _ _ _
      refine wl_pure (.agg #[(.int .i64 x_e.N), (.slice a268 x_e.Key.length c269), (.int .i64 x_e.Seq), (.int .i64 ((F_spec_l8Copy x_e.Win).Top)), (.slice a275 ((F_spec_l8Copy x_e.Win).Bits).length c276)]) (want_none rfl) rfl rfl (by kernel_rfl) ?_
      exact wl_fin (Ch.refl _ _) rfl
  · intro w3 k283
    have m284 := m22.extk k283
    rintro _ rfl
    rintro _ rfl
    rintro _ ⟨a286, rfl, o288⟩
    rintro _ rfl
    rintro _ rfl
    rintro _ ⟨a292, c293, rfl, o294, s295, -⟩
    rintro _ rfl
    rintro _ rfl
    rintro _ rfl
    rintro _ rfl
    rintro _ ⟨a299, c300, rfl, o301, s302, ap304, hx305⟩
    rintro _ rfl
    show WL _ _ _ _ _ _ _
    have b306 := (b21.kp k283)
    refine wl_store (.agg #[(.int .i64 x_e.N), (.slice a292 x_e.Key.length c293), (.int .i64 x_e.Seq), (.int .i64 ((F_spec_l8Copy x_e.Win).Top)), (.slice a299 ((F_spec_l8Copy x_e.Win).Bits).length c300)]) [(.int .i64 x_e.N), (.slice a292 x_e.Key.length c293), (.int .i64 x_e.Seq), (.int .i64 ((F_spec_l8Copy x_e.Win).Top)), (.slice a299 ((F_spec_l8Copy x_e.Win).Bits).length c300)] [(.int .i64 x_e.N), (.slice a292 x_e.Key.length c293), (.int .i64 x_e.Seq), (.int .i64 ((F_spec_l8Copy x_e.Win).Top)), (.slice a299 ((F_spec_l8Copy x_e.Win).Bits).length c300)] (want_none rfl) rfl rfl rfl rfl rfl (one_cons rfl (one_cons rfl (one_cons rfl (one_cons rfl (one_cons rfl one_nil))))) sizeOf_27 b306 rfl rfl ?_
    intro w4 k307 b308 z309
    have m310 := m284.ext k307 (fun k hk => by subst hk; exact Nat.le_trans k14.size p18)
    refine wl_nil ?_
    refine wq_then ?_
    refine wc_ret ?_
    have o311 := (own_ch o294 k307 (fun g hg hlt hk => by have h1 := (own_lt o294 g hg).1; have h2 := Nat.lt_of_lt_of_le p19 (Nat.le_refl _); omega))
    have o312 := (own_ch o301 k307 (fun g hg hlt hk => by have h1 := (own_lt o301 g hg).1; have h2 := Nat.lt_of_lt_of_le p19 (Nat.le_refl _); omega))
    refine ret_1 (.inl rfl) (.agg #[(.int .i64 x_e.N), (.slice a292 x_e.Key.length c293), (.int .i64 x_e.Seq), (.int .i64 ((F_spec_l8Copy x_e.Win).Top)), (.slice a299 ((F_spec_l8Copy x_e.Win).Bits).length c300)]) rfl (rv_c [(.int .i64 x_e.N), (.slice a292 x_e.Key.length c293), (.int .i64 x_e.Seq), (.int .i64 ((F_spec_l8Copy x_e.Win).Top)), (.slice a299 ((F_spec_l8Copy x_e.Win).Bits).length c300)] rfl b308 isAgg_27 sizeOf_27) ?_
    refine ⟨m310.keep0, ?_⟩
    have hF313 : F_spec_l9Copy x_e = { N := x_e.N, Key := x_e.Key, Seq := x_e.Seq, Win := (F_spec_l8Copy x_e.Win) : PEp } := by rfl
    rw [hF313]
    exact ⟨_, _, _, _, rfl, (own_lo o311 (Nat.le_trans k14.size k20.size)), s295, (own_lo o312 (Nat.le_trans k14.size k20.size)), s302, ⟨⟨hx305, trivial⟩, ⟨trivial, trivial⟩⟩⟩

def F_spec_l14Ep (x_e : PEp) (x_has : Bool) : (PEp) := bif x_has then ((F_spec_l9Copy x_e)) else (x_e)
theorem C_spec_l14Ep (w0 : World) (v_x_e : Value) (x_e : PEp) (r_x_e : R_27 w0 v_x_e x_e) (x_has : Bool)  : Fn Try.prog 114 #[v_x_e, (.bool x_has)] w0 (fun v w' => Keep w0 w' ∧ O_27 w' w0.heap.size v (F_spec_l14Ep x_e x_has)) := by
  obtain ⟨a1, c2, a6, c7, rfl, r3, s4, r8, s9⟩ := r_x_e
  refine fn_of (n := 27) (l := [(.agg #[(.int .i64 x_e.N), (.slice a1 x_e.Key.length c2), (.int .i64 x_e.Seq), (.int .i64 x_e.Win.Top), (.slice a6 x_e.Win.Bits.length c7)]), (.bool x_has), undef, undef, undef, undef, undef, undef, undef, undef, undef, undef, undef, undef, undef, undef, undef, undef, undef, undef, undef, undef, undef, undef, undef, undef, undef]) Try.func114 rfl rfl (by kernel_rfl) rfl ?_
  refine wc_seq ?_
  refine wc_region ?_
  refine wl_box (want_none rfl) [(.int .i64 x_e.N), (.slice a1 x_e.Key.length c2), (.int .i64 x_e.Seq), (.int .i64 x_e.Win.Top), (.slice a6 x_e.Win.Bits.length c7)] rfl rfl rfl rfl ?_
  intro g11 w1 p12 p13 k14 b15
  have m16 := (Ch.base w0).extk k14
  refine wl_alloc (want_none rfl) (.agg #[(.int .i64 0), (.slice none 0 0), (.int .i64 0), (.int .i64 0), (.slice none 0 0)]) [(.int .i64 0), (.slice none 0 0), (.int .i64 0), (.int .i64 0), (.slice none 0 0)] zero_27 rfl rfl rfl rfl ?_
  intro g17 w2 p18 p19 k20 b21
  have m22 := m16.extk k20
  refine wl_nil ?_
  refine wq_then ?_
  refine wc_seq ?_
  refine wc_seq ?_
  refine wc_region ?_
  refine wl_mv (.bool x_has) (want_none rfl) rfl rfl (.inl rfl) rfl ?_
  refine wl_pure (.bool (!x_has)) (want_none rfl) rfl rfl (by kernel_rfl) ?_
  refine wl_nil ?_
  refine wq_then ?_
  rcases Bool.eq_false_or_eq_true x_has with h23 | h23
  · skip
    refine wc_false (congrArg (fun b => Value.bool (!b)) h23) ?_
    refine wc_skip ?_
    refine wq_then ?_
    refine wc_seq ?_
    refine wc_region ?_
    have b25 := (b15.kp k20)
    refine wl_loadN [(.int .i64 x_e.N), (.slice a1 x_e.Key.length c2), (.int .i64 x_e.Seq), (.int .i64 x_e.Win.Top), (.slice a6 x_e.Win.Bits.length c7)] (want_none rfl) rfl rfl rfl rfl isAgg_27 sizeOf_27 b25 rfl ?_
    refine wl_call (want_none rfl) (args := #[(.agg #[(.int .i64 x_e.N), (.slice a1 x_e.Key.length c2), (.int .i64 x_e.Seq), (.int .i64 x_e.Win.Top), (.slice a6 x_e.Win.Bits.length c7)])]) rfl rfl (by kernel_rfl) (C_spec_l9Copy w2 (.agg #[(.int .i64 x_e.N), (.slice a1 x_e.Key.length c2), (.int .i64 x_e.Seq), (.int .i64 x_e.Win.Top), (.slice a6 x_e.Win.Bits.length c7)]) x_e (show R_27 w2 (.agg #[(.int .i64 x_e.N), (.slice a1 x_e.Key.length c2), (.int .i64 x_e.Seq), (.int .i64 x_e.Win.Top), (.slice a6 x_e.Win.Bits.length c7)]) x_e from ⟨_, _, _, _, rfl, (r3.from0 m22), s4, (r8.from0 m22), s9⟩)) ?_
    rintro _ w3 ⟨k26, ⟨a27, c28, a32, c33, rfl, o29, s30, o34, s35, ap37⟩⟩
    have m38 := m22.extk k26
    have b39 := (b21.kp k26)
    refine wl_store (.agg #[(.int .i64 ((F_spec_l9Copy x_e).N)), (.slice a27 ((F_spec_l9Copy x_e).Key).length c28), (.int .i64 ((F_spec_l9Copy x_e).Seq)), (.int .i64 (((F_spec_l9Copy x_e).Win).Top)), (.slice a32 (((F_spec_l9Copy x_e).Win).Bits).length c33)]) [(.int .i64 ((F_spec_l9Copy x_e).N)), (.slice a27 ((F_spec_l9Copy x_e).Key).length c28), (.int .i64 ((F_spec_l9Copy x_e).Seq)), (.int .i64 (((F_spec_l9Copy x_e).Win).Top)), (.slice a32 (((F_spec_l9Copy x_e).Win).Bits).length c33)] [(.int .i64 ((F_spec_l9Copy x_e).N)), (.slice a27 ((F_spec_l9Copy x_e).Key).length c28), (.int .i64 ((F_spec_l9Copy x_e).Seq)), (.int .i64 (((F_spec_l9Copy x_e).Win).Top)), (.slice a32 (((F_spec_l9Copy x_e).Win).Bits).length c33)] (want_none rfl) rfl rfl rfl rfl rfl (one_cons rfl (one_cons rfl (one_cons rfl (one_cons rfl (one_cons rfl one_nil))))) sizeOf_27 b39 rfl rfl ?_
    intro w4 k40 b41 z42
    have m43 := m38.ext k40 (fun k hk => by subst hk; exact Nat.le_trans k14.size p18)
    refine wl_nil ?_
    refine wq_then ?_
    refine wc_ret ?_
    have o44 := (own_ch o29 k40 (fun g hg hlt hk => by have h1 := (own_lt o29 g hg).1; have h2 := Nat.lt_of_lt_of_le p19 (Nat.le_refl _); omega))
    have o45 := (own_ch o34 k40 (fun g hg hlt hk => by have h1 := (own_lt o34 g hg).1; have h2 := Nat.lt_of_lt_of_le p19 (Nat.le_refl _); omega))
    refine ret_1 (.inl rfl) (.agg #[(.int .i64 ((F_spec_l9Copy x_e).N)), (.slice a27 ((F_spec_l9Copy x_e).Key).length c28), (.int .i64 ((F_spec_l9Copy x_e).Seq)), (.int .i64 (((F_spec_l9Copy x_e).Win).Top)), (.slice a32 (((F_spec_l9Copy x_e).Win).Bits).length c33)]) rfl (rv_c [(.int .i64 ((F_spec_l9Copy x_e).N)), (.slice a27 ((F_spec_l9Copy x_e).Key).length c28), (.int .i64 ((F_spec_l9Copy x_e).Seq)), (.int .i64 (((F_spec_l9Copy x_e).Win).Top)), (.slice a32 (((F_spec_l9Copy x_e).Win).Bits).length c33)] rfl b41 isAgg_27 sizeOf_27) ?_
    refine ⟨m43.keep0, ?_⟩
    have hF46 : F_spec_l14Ep x_e x_has = (F_spec_l9Copy x_e) := by simp only [F_spec_l14Ep, h23, cond_true, cond_false]
    rw [hF46]
    exact ⟨_, _, _, _, rfl, (own_lo o44 (Nat.le_trans k14.size k20.size)), s30, (own_lo o45 (Nat.le_trans k14.size k20.size)), s35, ⟨⟨(ap37.1.1), trivial⟩, ⟨trivial, trivial⟩⟩⟩
  · skip
    refine wc_true (congrArg (fun b => Value.bool (!b)) h23) ?_
    refine wc_seq ?_
    refine wc_draw ([(7, [], [], (fun _ v _ => v = (.pointer (some ⟨g11, 0, none⟩)))), (8, [], [0], (fun _ v _ => v = (.int .i64 x_e.N))), (9, [], [], (fun _ v w => ∃ a0 : Addr, v = .slice (some a0) 0 0 ∧ w.ownsRow w2.heap.size 5 1 (.slice (some a0) 0 0) 0 [])), (10, [], [], (fun _ v _ => v = (.pointer (some ⟨g11, 1, none⟩)))), (11, [], [3], (fun _ v _ => v = (.slice a1 x_e.Key.length c2))), (12, [], [2, 3, 4], (fun _ v w => ∃ (a1 : Option Addr) (c1 : Nat), v = .slice a1 x_e.Key.length c1 ∧ w.ownsRow w2.heap.size 5 1 (.slice a1 x_e.Key.length c1) x_e.Key.length (x_e.Key.map bV) ∧ x_e.Key.length ≤ 1073741824 ∧ Aps [(a1, c1)])), (13, [], [], (fun _ v _ => v = (.pointer (some ⟨g11, 2, none⟩)))), (14, [], [6], (fun _ v _ => v = (.int .i64 x_e.Seq))), (15, [], [], (fun _ v _ => v = (.pointer (some ⟨g11, 3, none⟩)))), (16, [], [8], (fun _ v _ => v = (.pointer (some ⟨g11, 3, none⟩)))), (17, [], [8, 9], (fun _ v _ => v = (.int .i64 x_e.Win.Top))), (18, [], [], (fun _ v w => ∃ a0 : Addr, v = .slice (some a0) 0 0 ∧ w.ownsRow w2.heap.size 3 1 (.slice (some a0) 0 0) 0 [])), (19, [], [], (fun _ v _ => v = (.pointer (some ⟨g11, 3, none⟩)))), (20, [], [12], (fun _ v _ => v = (.pointer (some ⟨g11, 4, none⟩)))), (21, [], [12, 13], (fun _ v _ => v = (.slice a6 x_e.Win.Bits.length c7))), (22, [12], [2, 3, 4, 5, 11, 12, 13, 14], (fun e v w => ∃ (a1 : Option Addr) (c1 : Nat), v = .slice a1 x_e.Win.Bits.length c1 ∧ w.ownsRow w2.heap.size 3 1 (.slice a1 x_e.Win.Bits.length c1) x_e.Win.Bits.length (x_e.Win.Bits.map iV) ∧ x_e.Win.Bits.length ≤ 1073741824 ∧ Aps [(a1, c1)] ∧ Ap (sp (e 12)) (a1, c1))), (23, [22], [2, 3, 4, 5, 8, 9, 10, 11, 12, 13, 14, 15], (fun e v _ => v = (.agg #[(.int .i64 x_e.Win.Top), (e 22)]))), (24, [12, 22], [0, 1, 2, 3, 4, 5, 6, 7, 8, 9, 10, 11, 12, 13, 14, 15, 16], (fun e v _ => v = (.agg #[(.int .i64 x_e.N), (e 12), (.int .i64 x_e.Seq), (.int .i64 x_e.Win.Top), (e 22)])))] : GV) mixed rfl (by kernel_rfl) (by kernel_rfl) ?_ ?_ ?_
    · exact ⟨(fun _ _ _ _ h _ => h), (fun _ _ _ _ _ h => h), ⟨(fun _ _ _ _ h _ => h), (fun _ _ _ _ _ h => h), ⟨(fun e v w w1 h hk => by obtain ⟨a0x, he, o0x⟩ := h; exact ⟨a0x, he, own_kp o0x hk⟩), (fun _ _ _ _ _ h => h), ⟨(fun _ _ _ _ h _ => h), (fun _ _ _ _ _ h => h), ⟨(fun _ _ _ _ h _ => h), (fun _ _ _ _ _ h => h), ⟨(fun e v w w1 h hk => by obtain ⟨a0x, c0x, he, o0x, l0x, hap⟩ := h; exact ⟨a0x, c0x, he, own_kp o0x hk, l0x, hap⟩), (fun _ _ _ _ _ h => h), ⟨(fun _ _ _ _ h _ => h), (fun _ _ _ _ _ h => h), ⟨(fun _ _ _ _ h _ => h), (fun _ _ _ _ _ h => h), ⟨(fun _ _ _ _ h _ => h), (fun _ _ _ _ _ h => h), ⟨(fun _ _ _ _ h _ => h), (fun _ _ _ _ _ h => h), ⟨(fun _ _ _ _ h _ => h), (fun _ _ _ _ _ h => h), ⟨(fun e v w w1 h hk => by obtain ⟨a0x, he, o0x⟩ := h; exact ⟨a0x, he, own_kp o0x hk⟩), (fun _ _ _ _ _ h => h), ⟨(fun _ _ _ _ h _ => h), (fun _ _ _ _ _ h => h), ⟨(fun _ _ _ _ h _ => h), (fun _ _ _ _ _ h => h), ⟨(fun _ _ _ _ h _ => h), (fun _ _ _ _ _ h => h), ⟨(fun e v w w1 h hk => by obtain ⟨a0x, c0x, he, o0x, l0x, hap, hx⟩ := h; exact ⟨a0x, c0x, he, own_kp o0x hk, l0x, hap, hx⟩), (fun e1 e2 v w hx h => by have h12x := hx 12 (by simp); simp only [h12x] at h; exact h), ⟨(fun _ _ _ _ h _ => h), (fun e1 e2 v w hx h => by have h22x := hx 22 (by simp); simp only [h22x] at h; exact h), ⟨(fun _ _ _ _ h _ => h), (fun e1 e2 v w hx h => by have h12x := hx 12 (by simp); have h22x := hx 22 (by simp); simp only [h12x, h22x] at h; exact h), trivial⟩⟩⟩⟩⟩⟩⟩⟩⟩⟩⟩⟩⟩⟩⟩⟩⟩⟩
    · refine ⟨?_, ⟨?_, ⟨?_, ⟨?_, ⟨?_, ⟨?_, ⟨?_, ⟨?_, ⟨?_, ⟨?_, ⟨?_, ⟨?_, ⟨?_, ⟨?_, ⟨?_, ⟨?_, ⟨?_, ⟨?_, trivial⟩⟩⟩⟩⟩⟩⟩⟩⟩⟩⟩⟩⟩⟩⟩⟩⟩⟩
      · intro w3 k114
        have m115 := m22.extk k114
        intro u116
        intro u117
        intro u118
        intro u119
        intro u120
        intro u121
        intro u122
        intro u123
        intro u124
        intro u125
        intro u126
        intro u127
        intro u128
        intro u129
        intro u130
        intro u131
        intro u132
        intro u133
        show WL _ _ _ _ _ _ _
        refine wl_pure (.pointer (some ⟨g11, 0, none⟩)) (want_none rfl) rfl rfl (by kernel_rfl) ?_
        exact wl_fin (Ch.refl _ _) rfl
      · intro w3 k134
        have m135 := m22.extk k134
        rintro _ rfl
        intro u136
        intro u137
        intro u138
        intro u139
        intro u140
        intro u141
        intro u142
        intro u143
        intro u144
        intro u145
        intro u146
        intro u147
        intro u148
        intro u149
        intro u150
        intro u151
        intro u152
        show WL _ _ _ _ _ _ _
        have b153 := ((b15.kp k20).kp k134)
        refine wl_load1 (.int .i64 x_e.N) (want_none rfl) rfl rfl rfl rfl isAgg_3 b153 rfl ?_
        exact wl_fin (Ch.refl _ _) rfl
      · intro w3 k154
        have m155 := m22.extk k154
        intro u156
        intro u157
        intro u158
        intro u159
        intro u160
        intro u161
        intro u162
        intro u163
        intro u164
        intro u165
        intro u166
        intro u167
        intro u168
        intro u169
        intro u170
        intro u171
        intro u172
        intro u173
        show WL _ _ _ _ _ _ _
        refine wl_lit0 (want_none rfl) rfl rfl slTy_22 (fun w => by kernel_rfl) ?_
        intro a174 w4 k175 o176
        have m177 := m155.extk k175
        exact wl_fin k175 ⟨_, rfl, own_lo o176 k154.size⟩
      · intro w3 k179
        have m180 := m22.extk k179
        intro u181
        intro u182
        intro u183
        intro u184
        intro u185
        intro u186
        intro u187
        intro u188
        intro u189
        intro u190
        intro u191
        intro u192
        intro u193
        intro u194
        intro u195
        intro u196
        intro u197
        intro u198
        show WL _ _ _ _ _ _ _
        refine wl_pure (.pointer (some ⟨g11, 1, none⟩)) (want_none rfl) rfl rfl (by kernel_rfl) ?_
        exact wl_fin (Ch.refl _ _) rfl
      · intro w3 k199
        have m200 := m22.extk k199
        intro u201
        intro u202
        intro u203
        rintro _ rfl
        intro u204
        intro u205
        intro u206
        intro u207
        intro u208
        intro u209
        intro u210
        intro u211
        intro u212
        intro u213
        intro u214
        intro u215
        intro u216
        intro u217
        show WL _ _ _ _ _ _ _
        have b218 := ((b15.kp k20).kp k199)
        refine wl_load1 (.slice a1 x_e.Key.length c2) (want_none rfl) rfl rfl rfl rfl isAgg_22 b218 rfl ?_
        exact wl_fin (Ch.refl _ _) rfl
      · intro w3 k219
        have m220 := m22.extk k219
        intro u221
        intro u222
        rintro _ ⟨a223, rfl, o225⟩
        rintro _ rfl
        rintro _ rfl
        intro u229
        intro u230
        intro u231
        intro u232
        intro u233
        intro u234
        intro u235
        intro u236
        intro u237
        intro u238
        intro u239
        intro u240
        intro u241
        show WL _ _ _ _ _ _ _
        refine wl_append0 (want_none rfl) rfl rfl rfl slTy_22 rfl rfl o225 (r3.from0 m220) (all_bV _) (by (try simp only [List.length_append, List.length_cons, List.length_nil]); omega) (by simp only [maxLen]; (try simp only [List.length_append, List.length_cons, List.length_nil]); omega) k219.size ?_
        intro u242 w4 k243 o244 j245
        obtain ⟨a246, c247, rfl⟩ := own_form o244
        have n248 : New w3 a246 c247 := j245 _ _ rfl
        have m249 := m220.extk k243
        exact wl_fin k243 ⟨_, _, rfl, o244, s4, ⟨trivial, trivial⟩⟩
      · intro w3 k251
        have m252 := m22.extk k251
        intro u253
        intro u254
        intro u255
        intro u256
        intro u257
        intro u258
        intro u259
        intro u260
        intro u261
        intro u262
        intro u263
        intro u264
        intro u265
        intro u266
        intro u267
        intro u268
        intro u269
        intro u270
        show WL _ _ _ _ _ _ _
        refine wl_pure (.pointer (some ⟨g11, 2, none⟩)) (want_none rfl) rfl rfl (by kernel_rfl) ?_
        exact wl_fin (Ch.refl _ _) rfl
      · intro w3 k271
        have m272 := m22.extk k271
        intro u273
        intro u274
        intro u275
        intro u276
        intro u277
        intro u278
        rintro _ rfl
        intro u279
        intro u280
        intro u281
        intro u282
        intro u283
        intro u284
        intro u285
        intro u286
        intro u287
        intro u288
        intro u289
        show WL _ _ _ _ _ _ _
        have b290 := ((b15.kp k20).kp k271)
        refine wl_load1 (.int .i64 x_e.Seq) (want_none rfl) rfl rfl rfl rfl isAgg_3 b290 rfl ?_
        exact wl_fin (Ch.refl _ _) rfl
      · intro w3 k291
        have m292 := m22.extk k291
        intro u293
        intro u294
        intro u295
        intro u296
        intro u297
        intro u298
        intro u299
        intro u300
        intro u301
        intro u302
        intro u303
        intro u304
        intro u305
        intro u306
        intro u307
        intro u308
        intro u309
        intro u310
        show WL _ _ _ _ _ _ _
        refine wl_pure (.pointer (some ⟨g11, 3, none⟩)) (want_none rfl) rfl rfl (by kernel_rfl) ?_
        exact wl_fin (Ch.refl _ _) rfl
      · intro w3 k311
        have m312 := m22.extk k311
        intro u313
        intro u314
        intro u315
        intro u316
        intro u317
        intro u318
        intro u319
        intro u320
        rintro _ rfl
        intro u321
        intro u322
        intro u323
        intro u324
        intro u325
        intro u326
        intro u327
        intro u328
        intro u329
        show WL _ _ _ _ _ _ _
        refine wl_pure (.pointer (some ⟨g11, 3, none⟩)) (want_none rfl) rfl rfl (by kernel_rfl) ?_
        exact wl_fin (Ch.refl _ _) rfl
      · intro w3 k330
        have m331 := m22.extk k330
        intro u332
        intro u333
        intro u334
        intro u335
        intro u336
        intro u337
        intro u338
        intro u339
        rintro _ rfl
        rintro _ rfl
        intro u340
        intro u341
        intro u342
        intro u343
        intro u344
        intro u345
        intro u346
        intro u347
        show WL _ _ _ _ _ _ _
        have b348 := ((b15.kp k20).kp k330)
        refine wl_load1 (.int .i64 x_e.Win.Top) (want_none rfl) rfl rfl rfl rfl isAgg_3 b348 rfl ?_
        exact wl_fin (Ch.refl _ _) rfl
      · intro w3 k349
        have m350 := m22.extk k349
        intro u351
        intro u352
        intro u353
        intro u354
        intro u355
        intro u356
        intro u357
        intro u358
        intro u359
        intro u360
        intro u361
        intro u362
        intro u363
        intro u364
        intro u365
        intro u366
        intro u367
        intro u368
        show WL _ _ _ _ _ _ _
        refine wl_lit0 (want_none rfl) rfl rfl slTy_23 (fun w => by kernel_rfl) ?_
        intro a369 w4 k370 o371
        have m372 := m350.extk k370
        exact wl_fin k370 ⟨_, rfl, own_lo o371 k349.size⟩
      · intro w3 k374
        have m375 := m22.extk k374
        intro u376
        intro u377
        intro u378
        intro u379
        intro u380
        intro u381
        intro u382
        intro u383
        intro u384
        intro u385
        intro u386
        intro u387
        intro u388
        intro u389
        intro u390
        intro u391
        intro u392
        intro u393
        show WL _ _ _ _ _ _ _
        refine wl_pure (.pointer (some ⟨g11, 3, none⟩)) (want_none rfl) rfl rfl (by kernel_rfl) ?_
        exact wl_fin (Ch.refl _ _) rfl
      · intro w3 k394
        have m395 := m22.extk k394
        intro u396
        intro u397
        intro u398
        intro u399
        intro u400
        intro u401
        intro u402
        intro u403
        intro u404
        intro u405
        intro u406
        intro u407
        rintro _ rfl
        intro u408
        intro u409
        intro u410
        intro u411
        intro u412
        show WL _ _ _ _ _ _ _
        refine wl_pure (.pointer (some ⟨g11, 4, none⟩)) (want_none rfl) rfl rfl (by kernel_rfl) ?_
        exact wl_fin (Ch.refl _ _) rfl
      · intro w3 k413
        have m414 := m22.extk k413
        intro u415
        intro u416
        intro u417
        intro u418
        intro u419
        intro u420
        intro u421
        intro u422
        intro u423
        intro u424
        intro u425
        intro u426
        rintro _ rfl
        rintro _ rfl
        intro u427
        intro u428
        intro u429
        intro u430
        show WL _ _ _ _ _ _ _
        have b431 := ((b15.kp k20).kp k413)
        refine wl_load1 (.slice a6 x_e.Win.Bits.length c7) (want_none rfl) rfl rfl rfl rfl isAgg_23 b431 rfl ?_
        exact wl_fin (Ch.refl _ _) rfl
      · intro w3 k432
        have m433 := m22.extk k432
        intro u434
        intro u435
        rintro _ ⟨a436, rfl, o438⟩
        rintro _ rfl
        rintro _ rfl
        rintro _ ⟨a442, c443, rfl, o444, s445, -⟩
        intro u447
        intro u448
        intro u449
        intro u450
        intro u451
        rintro _ ⟨a452, rfl, o454⟩
        rintro _ rfl
        rintro _ rfl
        rintro _ rfl
        intro u458
        intro u459
        intro u460
        show WL _ _ _ _ _ _ _
        refine wl_append0 (want_none rfl) rfl rfl rfl slTy_23 rfl rfl o454 (r8.from0 m433) (all_iV _) (by (try simp only [List.length_append, List.length_cons, List.length_nil]); omega) (by simp only [maxLen]; (try simp only [List.length_append, List.length_cons, List.length_nil]); omega) k432.size ?_
        intro u461 w4 k462 o463 j464
        obtain ⟨a465, c466, rfl⟩ := own_form o463
        have n467 : New w3 a465 c466 := j464 _ _ rfl
        have m468 := m433.extk k462
        exact wl_fin k462 ⟨_, _, rfl, o463, s9, ⟨trivial, trivial⟩, (Ap.new o444 n467 (Nat.le_refl _))⟩
      · intro w3 k470
        have m471 := m22.extk k470
        intro u472
        intro u473
        rintro _ ⟨a474, rfl, o476⟩
        rintro _ rfl
        rintro _ rfl
        rintro _ ⟨a480, c481, rfl, o482, s483, -⟩
        intro u485
        intro u486
        rintro _ rfl
        rintro _ rfl
        rintro _ rfl
        rintro _ ⟨a488, rfl, o490⟩
        rintro _ rfl
        rintro _ rfl
        rintro _ rfl
        rintro _ ⟨a494, c495, rfl, o496, s497, -, hx499⟩
        intro u500
        intro u501
        show WL _ _ _ _ _ _ _
        refine wl_pure (.agg #[(.int .i64 x_e.Win.Top), (.slice a494 x_e.Win.Bits.length c495)]) (want_none rfl) rfl rfl (by kernel_rfl) ?_
        exact wl_fin (Ch.refl _ _) rfl
      · intro w3 k502
        have m503 := m22.extk k502
        rintro _ rfl
        rintro _ rfl
        rintro _ ⟨a505, rfl, o507⟩
        rintro _ rfl
        rintro _ rfl
        rintro _ ⟨a511, c512, rfl, o513, s514, -⟩
        rintro _ rfl
        rintro _ rfl
        rintro _ rfl
        rintro _ rfl
        rintro _ rfl
        rintro _ ⟨a518, rfl, o520⟩
        rintro _ rfl
        rintro _ rfl
        rintro _ rfl
        rintro _ ⟨a524, c525, rfl, o526, s527, -, hx529⟩
        rintro _ rfl
        intro u530
        show WL _ _ _ _ _ _ _
        refine wl_pure (.agg #[(.int .i64 x_e.N), (.slice a511 x_e.Key.length c512), (.int .i64 x_e.Seq), (.int .i64 x_e.Win.Top), (.slice a524 x_e.Win.Bits.length c525)]) (want_none rfl) rfl rfl (by kernel_rfl) ?_
        exact wl_fin (Ch.refl _ _) rfl
    · intro w3 k531
      have m532 := m22.extk k531
      rintro _ rfl
      rintro _ rfl
      rintro _ ⟨a534, rfl, o536⟩
      rintro _ rfl
      rintro _ rfl
      rintro _ ⟨a540, c541, rfl, o542, s543, -⟩
      rintro _ rfl
      rintro _ rfl
      rintro _ rfl
      rintro _ rfl
      rintro _ rfl
      rintro _ ⟨a547, rfl, o549⟩
      rintro _ rfl
      rintro _ rfl
      rintro _ rfl
      rintro _ ⟨a553, c554, rfl, o555, s556, -, hx558⟩
      rintro _ rfl
      rintro _ rfl
      show WL _ _ _ _ _ _ _
      have b559 := (b21.kp k531)
      refine wl_store (.agg #[(.int .i64 x_e.N), (.slice a540 x_e.Key.length c541), (.int .i64 x_e.Seq), (.int .i64 x_e.Win.Top), (.slice a553 x_e.Win.Bits.length c554)]) [(.int .i64 x_e.N), (.slice a540 x_e.Key.length c541), (.int .i64 x_e.Seq), (.int .i64 x_e.Win.Top), (.slice a553 x_e.Win.Bits.length c554)] [(.int .i64 x_e.N), (.slice a540 x_e.Key.length c541), (.int .i64 x_e.Seq), (.int .i64 x_e.Win.Top), (.slice a553 x_e.Win.Bits.length c554)] (want_none rfl) rfl rfl rfl rfl rfl (one_cons rfl (one_cons rfl (one_cons rfl (one_cons rfl (one_cons rfl one_nil))))) sizeOf_27 b559 rfl rfl ?_
      intro w4 k560 b561 z562
      have m563 := m532.ext k560 (fun k hk => by subst hk; exact Nat.le_trans k14.size p18)
      refine wl_nil ?_
      refine wq_then ?_
      refine wc_ret ?_
      refine wq_then_ret ?_
      have o564 := (own_ch o542 k560 (fun g hg hlt hk => by have h1 := (own_lt o542 g hg).1; have h2 := Nat.lt_of_lt_of_le p19 (Nat.le_refl _); omega))
      have o565 := (own_ch o555 k560 (fun g hg hlt hk => by have h1 := (own_lt o555 g hg).1; have h2 := Nat.lt_of_lt_of_le p19 (Nat.le_refl _); omega))
      refine ret_1 (.inl rfl) (.agg #[(.int .i64 x_e.N), (.slice a540 x_e.Key.length c541), (.int .i64 x_e.Seq), (.int .i64 x_e.Win.Top), (.slice a553 x_e.Win.Bits.length c554)]) rfl (rv_c [(.int .i64 x_e.N), (.slice a540 x_e.Key.length c541), (.int .i64 x_e.Seq), (.int .i64 x_e.Win.Top), (.slice a553 x_e.Win.Bits.length c554)] rfl b561 isAgg_27 sizeOf_27) ?_
      refine ⟨m563.keep0, ?_⟩
      have hF566 : F_spec_l14Ep x_e x_has = x_e := by simp only [F_spec_l14Ep, h23, cond_true, cond_false]
      rw [hF566]
      exact ⟨_, _, _, _, rfl, (own_lo o564 (Nat.le_trans k14.size k20.size)), s543, (own_lo o565 (Nat.le_trans k14.size k20.size)), s556, ⟨⟨hx558, trivial⟩, ⟨trivial, trivial⟩⟩⟩

def F_spec_l14Copy (x_c : PChan) : (PChan) := { Role := x_c.Role, Sn := x_c.Sn, Cur := (F_spec_l9Copy x_c.Cur), Old := (F_spec_l14Ep x_c.Old x_c.HasOld), HasOld := x_c.HasOld, Until := x_c.Until, Next := x_c.Next : PChan }
theorem C_spec_l14Copy (w0 : World) (v_x_c : Value) (x_c : PChan) (r_x_c : R_29 w0 v_x_c x_c)  : Fn Try.prog 81 #[v_x_c] w0 (fun v w' => Keep w0 w' ∧ O_29 w' w0.heap.size v (F_spec_l14Copy x_c)) := by
  obtain ⟨a1, c2, a6, c7, a11, c12, a16, c17, a21, c22, a26, c27, rfl, r3, s4, r8, s9, r13, s14, r18, s19, r23, s24, r28, s29⟩ := r_x_c
  refine fn_of (n := 26) (l := [(.agg #[(.int .i64 x_c.Role), (.slice a1 x_c.Sn.length c2), (.int .i64 x_c.Cur.N), (.slice a6 x_c.Cur.Key.length c7), (.int .i64 x_c.Cur.Seq), (.int .i64 x_c.Cur.Win.Top), (.slice a11 x_c.Cur.Win.Bits.length c12), (.int .i64 x_c.Old.N), (.slice a16 x_c.Old.Key.length c17), (.int .i64 x_c.Old.Seq), (.int .i64 x_c.Old.Win.Top), (.slice a21 x_c.Old.Win.Bits.length c22), (.bool x_c.HasOld), (.int .i64 x_c.Until), (.slice a26 x_c.Next.length c27)]), undef, undef, undef, undef, undef, undef, undef, undef, undef, undef, undef, undef, undef, undef, undef, undef, undef, undef, undef, undef, undef, undef, undef, undef, undef]) Try.func81 rfl rfl (by kernel_rfl) rfl ?_
  refine wc_seq ?_
  refine wc_region ?_
  refine wl_box (want_none rfl) [(.int .i64 x_c.Role), (.slice a1 x_c.Sn.length c2), (.int .i64 x_c.Cur.N), (.slice a6 x_c.Cur.Key.length c7), (.int .i64 x_c.Cur.Seq), (.int .i64 x_c.Cur.Win.Top), (.slice a11 x_c.Cur.Win.Bits.length c12), (.int .i64 x_c.Old.N), (.slice a16 x_c.Old.Key.length c17), (.int .i64 x_c.Old.Seq), (.int .i64 x_c.Old.Win.Top), (.slice a21 x_c.Old.Win.Bits.length c22), (.bool x_c.HasOld), (.int .i64 x_c.Until), (.slice a26 x_c.Next.length c27)] rfl rfl rfl rfl ?_
  intro g31 w1 p32 p33 k34 b35
  have m36 := (Ch.base w0).extk k34
  refine wl_alloc (want_none rfl) (.agg #[(.int .i64 0), (.slice none 0 0), (.int .i64 0), (.slice none 0 0), (.int .i64 0), (.int .i64 0), (.slice none 0 0), (.int .i64 0), (.slice none 0 0), (.int .i64 0), (.int .i64 0), (.slice none 0 0), (.bool false), (.int .i64 0), (.slice none 0 0)]) [(.int .i64 0), (.slice none 0 0), (.int .i64 0), (.slice none 0 0), (.int .i64 0), (.int .i64 0), (.slice none 0 0), (.int .i64 0), (.slice none 0 0), (.int .i64 0), (.int .i64 0), (.slice none 0 0), (.bool false), (.int .i64 0), (.slice none 0 0)] zero_29 rfl rfl rfl rfl ?_
  intro g37 w2 p38 p39 k40 b41
  have m42 := m36.extk k40
  refine wl_nil ?_
  refine wq_then ?_
  refine wc_seq ?_
  refine wc_draw ([(3, [], [], (fun _ v _ => v = (.pointer (some ⟨g31, 0, none⟩)))), (4, [], [0], (fun _ v _ => v = (.int .i64 x_c.Role))), (5, [], [], (fun _ v w => ∃ a0 : Addr, v = .slice (some a0) 0 0 ∧ w.ownsRow w2.heap.size 5 1 (.slice (some a0) 0 0) 0 [])), (6, [], [], (fun _ v _ => v = (.pointer (some ⟨g31, 1, none⟩)))), (7, [], [3], (fun _ v _ => v = (.slice a1 x_c.Sn.length c2))), (8, [], [2, 3, 4], (fun _ v w => ∃ (a1 : Option Addr) (c1 : Nat), v = .slice a1 x_c.Sn.length c1 ∧ w.ownsRow w2.heap.size 5 1 (.slice a1 x_c.Sn.length c1) x_c.Sn.length (x_c.Sn.map bV) ∧ x_c.Sn.length ≤ 1073741824 ∧ Aps [(a1, c1)])), (9, [], [], (fun _ v _ => v = (.pointer (some ⟨g31, 2, none⟩)))), (10, [], [6], (fun _ v _ => v = (.agg #[(.int .i64 x_c.Cur.N), (.slice a6 x_c.Cur.Key.length c7), (.int .i64 x_c.Cur.Seq), (.int .i64 x_c.Cur.Win.Top), (.slice a11 x_c.Cur.Win.Bits.length c12)]))), (11, [8], [2, 3, 4, 5, 6, 7], (fun e v w => ∃ (a1 : Option Addr) (c1 : Nat) (a2 : Option Addr) (c2 : Nat), v = .agg #[.int .i64 ((F_spec_l9Copy x_c.Cur).N), .slice a1 ((F_spec_l9Copy x_c.Cur).Key).length c1, .int .i64 ((F_spec_l9Copy x_c.Cur).Seq), .int .i64 (((F_spec_l9Copy x_c.Cur).Win).Top), .slice a2 (((F_spec_l9Copy x_c.Cur).Win).Bits).length c2] ∧ w.ownsRow (w2.heap.size) 5 1 (.slice a1 ((F_spec_l9Copy x_c.Cur).Key).length c1) ((F_spec_l9Copy x_c.Cur).Key).length (((F_spec_l9Copy x_c.Cur).Key).map bV) ∧ ((F_spec_l9Copy x_c.Cur).Key).length ≤ 1073741824 ∧ w.ownsRow (w2.heap.size) 3 1 (.slice a2 (((F_spec_l9Copy x_c.Cur).Win).Bits).length c2) (((F_spec_l9Copy x_c.Cur).Win).Bits).length ((((F_spec_l9Copy x_c.Cur).Win).Bits).map iV) ∧ (((F_spec_l9Copy x_c.Cur).Win).Bits).length ≤ 1073741824 ∧ Aps [(a1, c1), (a2, c2)] ∧ Ap (sp (e 8)) (a1, c1) ∧ Ap (sp (e 8)) (a2, c2))), (12, [], [], (fun _ v _ => v = (.pointer (some ⟨g31, 7, none⟩)))), (13, [], [9], (fun _ v _ => v = (.agg #[(.int .i64 x_c.Old.N), (.slice a16 x_c.Old.Key.length c17), (.int .i64 x_c.Old.Seq), (.int .i64 x_c.Old.Win.Top), (.slice a21 x_c.Old.Win.Bits.length c22)]))), (14, [], [], (fun _ v _ => v = (.pointer (some ⟨g31, 12, none⟩)))), (15, [], [11], (fun _ v _ => v = (.bool x_c.HasOld))), (16, [8, 11], [2, 3, 4, 5, 6, 7, 8, 9, 10, 11, 12], (fun e v w => ∃ (a1 : Option Addr) (c1 : Nat) (a2 : Option Addr) (c2 : Nat), v = .agg #[.int .i64 ((F_spec_l14Ep x_c.Old x_c.HasOld).N), .slice a1 ((F_spec_l14Ep x_c.Old x_c.HasOld).Key).length c1, .int .i64 ((F_spec_l14Ep x_c.Old x_c.HasOld).Seq), .int .i64 (((F_spec_l14Ep x_c.Old x_c.HasOld).Win).Top), .slice a2 (((F_spec_l14Ep x_c.Old x_c.HasOld).Win).Bits).length c2] ∧ w.ownsRow (w2.heap.size) 5 1 (.slice a1 ((F_spec_l14Ep x_c.Old x_c.HasOld).Key).length c1) ((F_spec_l14Ep x_c.Old x_c.HasOld).Key).length (((F_spec_l14Ep x_c.Old x_c.HasOld).Key).map bV) ∧ ((F_spec_l14Ep x_c.Old x_c.HasOld).Key).length ≤ 1073741824 ∧ w.ownsRow (w2.heap.size) 3 1 (.slice a2 (((F_spec_l14Ep x_c.Old x_c.HasOld).Win).Bits).length c2) (((F_spec_l14Ep x_c.Old x_c.HasOld).Win).Bits).length ((((F_spec_l14Ep x_c.Old x_c.HasOld).Win).Bits).map iV) ∧ (((F_spec_l14Ep x_c.Old x_c.HasOld).Win).Bits).length ≤ 1073741824 ∧ Aps [(a1, c1), (a2, c2)] ∧ Ap (sp (e 8)) (a1, c1) ∧ Ap (sp (e 8)) (a2, c2) ∧ Ap (sp (cellAt (e 11) 1)) (a1, c1) ∧ Ap (sp (cellAt (e 11) 1)) (a2, c2) ∧ Ap (sp (cellAt (e 11) 4)) (a1, c1) ∧ Ap (sp (cellAt (e 11) 4)) (a2, c2))), (17, [], [], (fun _ v _ => v = (.pointer (some ⟨g31, 12, none⟩)))), (18, [], [14], (fun _ v _ => v = (.bool x_c.HasOld))), (19, [], [], (fun _ v _ => v = (.pointer (some ⟨g31, 13, none⟩)))), (20, [], [16], (fun _ v _ => v = (.int .i64 x_c.Until))), (21, [], [], (fun _ v w => ∃ a0 : Addr, v = .slice (some a0) 0 0 ∧ w.ownsRow w2.heap.size 5 1 (.slice (some a0) 0 0) 0 [])), (22, [], [], (fun _ v _ => v = (.pointer (some ⟨g31, 14, none⟩)))), (23, [], [19], (fun _ v _ => v = (.slice a26 x_c.Next.length c27))), (24, [8, 11, 16], [2, 3, 4, 5, 6, 7, 8, 9, 10, 11, 12, 13, 18, 19, 20], (fun e v w => ∃ (a1 : Option Addr) (c1 : Nat), v = .slice a1 x_c.Next.length c1 ∧ w.ownsRow w2.heap.size 5 1 (.slice a1 x_c.Next.length c1) x_c.Next.length (x_c.Next.map bV) ∧ x_c.Next.length ≤ 1073741824 ∧ Aps [(a1, c1)] ∧ Ap (sp (e 8)) (a1, c1) ∧ Ap (sp (cellAt (e 11) 1)) (a1, c1) ∧ Ap (sp (cellAt (e 11) 4)) (a1, c1) ∧ Ap (sp (cellAt (e 16) 1)) (a1, c1) ∧ Ap (sp (cellAt (e 16) 4)) (a1, c1))), (25, [8, 11, 16, 24], [0, 1, 2, 3, 4, 5, 6, 7, 8, 9, 10, 11, 12, 13, 14, 15, 16, 17, 18, 19, 20, 21], (fun e v _ => v = (.agg #[(.int .i64 x_c.Role), (e 8), (.int .i64 ((F_spec_l9Copy x_c.Cur).N)), (cellAt (e 11) 1), (.int .i64 ((F_spec_l9Copy x_c.Cur).Seq)), (.int .i64 (((F_spec_l9Copy x_c.Cur).Win).Top)), (cellAt (e 11) 4), (.int .i64 ((F_spec_l14Ep x_c.Old x_c.HasOld).N)), (cellAt (e 16) 1), (.int .i64 ((F_spec_l14Ep x_c.Old x_c.HasOld).Seq)), (.int .i64 (((F_spec_l14Ep x_c.Old x_c.HasOld).Win).Top)), (cellAt (e 16) 4), (.bool x_c.HasOld), (.int .i64 x_c.Until), (e 24)])))] : GV) mixed rfl (by kernel_rfl) (by kernel_rfl) ?_ ?_ ?_
  · exact ⟨(fun _ _ _ _ h _ => h), (fun _ _ _ _ _ h => h), ⟨(fun _ _ _ _ h _ => h), (fun _ _ _ _ _ h => h), ⟨(fun e v w w1 h hk => by obtain ⟨a0x, he, o0x⟩ := h; exact ⟨a0x, he, own_kp o0x hk⟩), (fun _ _ _ _ _ h => h), ⟨(fun _ _ _ _ h _ => h), (fun _ _ _ _ _ h => h), ⟨(fun _ _ _ _ h _ => h), (fun _ _ _ _ _ h => h), ⟨(fun e v w w1 h hk => by obtain ⟨a0x, c0x, he, o0x, l0x, hap⟩ := h; exact ⟨a0x, c0x, he, own_kp o0x hk, l0x, hap⟩), (fun _ _ _ _ _ h => h), ⟨(fun _ _ _ _ h _ => h), (fun _ _ _ _ _ h => h), ⟨(fun _ _ _ _ h _ => h), (fun _ _ _ _ _ h => h), ⟨(fun e v w w1 h hk => by obtain ⟨a0x, c0x, a1x, c1x, he, o0x, l0x, o1x, l1x, hap, hx⟩ := h; exact ⟨a0x, c0x, a1x, c1x, he, own_kp o0x hk, l0x, own_kp o1x hk, l1x, hap, hx⟩), (fun e1 e2 v w hx h => by have h8x := hx 8 (by simp); simp only [h8x] at h; exact h), ⟨(fun _ _ _ _ h _ => h), (fun _ _ _ _ _ h => h), ⟨(fun _ _ _ _ h _ => h), (fun _ _ _ _ _ h => h), ⟨(fun _ _ _ _ h _ => h), (fun _ _ _ _ _ h => h), ⟨(fun _ _ _ _ h _ => h), (fun _ _ _ _ _ h => h), ⟨(fun e v w w1 h hk => by obtain ⟨a0x, c0x, a1x, c1x, he, o0x, l0x, o1x, l1x, hap, hx⟩ := h; exact ⟨a0x, c0x, a1x, c1x, he, own_kp o0x hk, l0x, own_kp o1x hk, l1x, hap, hx⟩), (fun e1 e2 v w hx h => by have h8x := hx 8 (by simp); have h11x := hx 11 (by simp); simp only [h8x, h11x] at h; exact h), ⟨(fun _ _ _ _ h _ => h), (fun _ _ _ _ _ h => h), ⟨(fun _ _ _ _ h _ => h), (fun _ _ _ _ _ h => h), ⟨(fun _ _ _ _ h _ => h), (fun _ _ _ _ _ h => h), ⟨(fun _ _ _ _ h _ => h), (fun _ _ _ _ _ h => h), ⟨(fun e v w w1 h hk => by obtain ⟨a0x, he, o0x⟩ := h; exact ⟨a0x, he, own_kp o0x hk⟩), (fun _ _ _ _ _ h => h), ⟨(fun _ _ _ _ h _ => h), (fun _ _ _ _ _ h => h), ⟨(fun _ _ _ _ h _ => h), (fun _ _ _ _ _ h => h), ⟨(fun e v w w1 h hk => by obtain ⟨a0x, c0x, he, o0x, l0x, hap, hx⟩ := h; exact ⟨a0x, c0x, he, own_kp o0x hk, l0x, hap, hx⟩), (fun e1 e2 v w hx h => by have h8x := hx 8 (by simp); have h11x := hx 11 (by simp); have h16x := hx 16 (by simp); simp only [h8x, h11x, h16x] at h; exact h), ⟨(fun _ _ _ _ h _ => h), (fun e1 e2 v w hx h => by have h8x := hx 8 (by simp); have h11x := hx 11 (by simp); have h16x := hx 16 (by simp); have h24x := hx 24 (by simp); simp only [h8x, h11x, h16x, h24x] at h; exact h), trivial⟩⟩⟩⟩⟩⟩⟩⟩⟩⟩⟩⟩⟩⟩⟩⟩⟩⟩⟩⟩⟩⟩⟩
  · refine ⟨?_, ⟨?_, ⟨?_, ⟨?_, ⟨?_, ⟨?_, ⟨?_, ⟨?_, ⟨?_, ⟨?_, ⟨?_, ⟨?_, ⟨?_, ⟨?_, ⟨?_, ⟨?_, ⟨?_, ⟨?_, ⟨?_, ⟨?_, ⟨?_, ⟨?_, ⟨?_, trivial⟩⟩⟩⟩⟩⟩⟩⟩⟩⟩⟩⟩⟩⟩⟩⟩⟩⟩⟩⟩⟩⟩⟩
    · intro w3 k159
      have m160 := m42.extk k159
      intro u161
      intro u162
      intro u163
      intro u164
      intro u165
      intro u166
      intro u167
      intro u168
      intro u169
      intro u170
      intro u171
      intro u172
      intro u173
      intro u174
      intro u175
      intro u176
      intro u177
      intro u178
      intro u179
      intro u180
      intro u181
      intro u182
      intro u183
      show WL _ _ _ _ _ _ _
      refine wl_pure (.pointer (some ⟨g31, 0, none⟩)) (want_none rfl) rfl rfl (by kernel_rfl) ?_
      exact wl_fin (Ch.refl _ _) rfl
    · intro w3 k184
      have m185 := m42.extk k184
      rintro _ rfl
      intro u186
      intro u187
      intro u188
      intro u189
      intro u190
      intro u191
      intro u192
      intro u193
      intro u194
      intro u195
      intro u196
      intro u197
      intro u198
      intro u199
      intro u200
      intro u201
      intro u202
      intro u203
      intro u204
      intro u205
      intro u206
      intro u207
      show WL _ _ _ _ _ _ _
      have b208 := ((b35.kp k40).kp k184)
      refine wl_load1 (.int .i64 x_c.Role) (want_none rfl) rfl rfl rfl rfl isAgg_3 b208 rfl ?_
      exact wl_fin (Ch.refl _ _) rfl
    · intro w3 k209
      have m210 := m42.extk k209
      intro u211
      intro u212
      intro u213
      intro u214
      intro u215
      intro u216
      intro u217
      intro u218
      intro u219
      intro u220
      intro u221
      intro u222
      intro u223
      intro u224
      intro u225
      intro u226
      intro u227
      intro u228
      intro u229
      intro u230
      intro u231
      intro u232
      intro u233
      show WL _ _ _ _ _ _ _
      refine wl_lit0 (want_none rfl) rfl rfl slTy_22 (fun w => by kernel_rfl) ?_
      intro a234 w4 k235 o236
      have m237 := m210.extk k235
      exact wl_fin k235 ⟨_, rfl, own_lo o236 k209.size⟩
    · intro w3 k239
      have m240 := m42.extk k239
      intro u241
      intro u242
      intro u243
      intro u244
      intro u245
      intro u246
      intro u247
      intro u248
      intro u249
      intro u250
      intro u251
      intro u252
      intro u253
      intro u254
      intro u255
      intro u256
      intro u257
      intro u258
      intro u259
      intro u260
      intro u261
      intro u262
      intro u263
      show WL _ _ _ _ _ _ _
      refine wl_pure (.pointer (some ⟨g31, 1, none⟩)) (want_none rfl) rfl rfl (by kernel_rfl) ?_
      exact wl_fin (Ch.refl _ _) rfl
    · intro w3 k264
      have m265 := m42.extk k264
      intro u266
      intro u267
      intro u268
      rintro _ rfl
      intro u269
      intro u270
      intro u271
      intro u272
      intro u273
      intro u274
      intro u275
      intro u276
      intro u277
      intro u278
      intro u279
      intro u280
      intro u281
      intro u282
      intro u283
      intro u284
      intro u285
      intro u286
      intro u287
      show WL _ _ _ _ _ _ _
      have b288 := ((b35.kp k40).kp k264)
      refine wl_load1 (.slice a1 x_c.Sn.length c2) (want_none rfl) rfl rfl rfl rfl isAgg_22 b288 rfl ?_
      exact wl_fin (Ch.refl _ _) rfl
    · intro w3 k289
      have m290 := m42.extk k289
      intro u291
      intro u292
      rintro _ ⟨a293, rfl, o295⟩
      rintro _ rfl
      rintro _ rfl
      intro u299
      intro u300
      intro u301
      intro u302
      intro u303
      intro u304
      intro u305
      intro u306
      intro u307
      intro u308
      intro u309
      intro u310
      intro u311
      intro u312
      intro u313
      intro u314
      intro u315
      intro u316
      show WL _ _ _ _ _ _ _
      refine wl_append0 (want_none rfl) rfl rfl rfl slTy_22 rfl rfl o295 (r3.from0 m290) (all_bV _) (by (try simp only [List.length_append, List.length_cons, List.length_nil]); omega) (by simp only [maxLen]; (try simp only [List.length_append, List.length_cons, List.length_nil]); omega) k289.size ?_
      intro u317 w4 k318 o319 j320
      obtain ⟨a321, c322, rfl⟩ := own_form o319
      have n323 : New w3 a321 c322 := j320 _ _ rfl
      have m324 := m290.extk k318
      exact wl_fin k318 ⟨_, _, rfl, o319, s4, ⟨trivial, trivial⟩⟩
    · intro w3 k326
      have m327 := m42.extk k326
      intro u328
      intro u329
      intro u330
      intro u331
      intro u332
      intro u333
      intro u334
      intro u335
      intro u336
      intro u337
      intro u338
      intro u339
      intro u340
      intro u341
      intro u342
      intro u343
      intro u344
      intro u345
      intro u346
      intro u347
      intro u348
      intro u349
      intro u350
      show WL _ _ _ _ _ _ _
      refine wl_pure (.pointer (some ⟨g31, 2, none⟩)) (want_none rfl) rfl rfl (by kernel_rfl) ?_
      exact wl_fin (Ch.refl _ _) rfl
    · intro w3 k351
      have m352 := m42.extk k351
      intro u353
      intro u354
      intro u355
      intro u356
      intro u357
      intro u358
      rintro _ rfl
      intro u359
      intro u360
      intro u361
      intro u362
      intro u363
      intro u364
      intro u365
      intro u366
      intro u367
      intro u368
      intro u369
      intro u370
      intro u371
      intro u372
      intro u373
      intro u374
      show WL _ _ _ _ _ _ _
      have b375 := ((b35.kp k40).kp k351)
      refine wl_loadN [(.int .i64 x_c.Cur.N), (.slice a6 x_c.Cur.Key.length c7), (.int .i64 x_c.Cur.Seq), (.int .i64 x_c.Cur.Win.Top), (.slice a11 x_c.Cur.Win.Bits.length c12)] (want_none rfl) rfl rfl rfl rfl isAgg_27 sizeOf_27 b375 rfl ?_
      exact wl_fin (Ch.refl _ _) rfl
    · intro w3 k376
      have m377 := m42.extk k376
      intro u378
      intro u379
      rintro _ ⟨a380, rfl, o382⟩
      rintro _ rfl
      rintro _ rfl
      rintro _ ⟨a386, c387, rfl, o388, s389, -⟩
      rintro _ rfl
      rintro _ rfl
      intro u392
      intro u393
      intro u394
      intro u395
      intro u396
      intro u397
      intro u398
      intro u399
      intro u400
      intro u401
      intro u402
      intro u403
      intro u404
      intro u405
      intro u406
      show WL _ _ _ _ _ _ _
      refine wl_call (want_none rfl) (args := #[(.agg #[(.int .i64 x_c.Cur.N), (.slice a6 x_c.Cur.Key.length c7), (.int .i64 x_c.Cur.Seq), (.int .i64 x_c.Cur.Win.Top), (.slice a11 x_c.Cur.Win.Bits.length c12)])]) rfl rfl (by kernel_rfl) (C_spec_l9Copy w3 (.agg #[(.int .i64 x_c.Cur.N), (.slice a6 x_c.Cur.Key.length c7), (.int .i64 x_c.Cur.Seq), (.int .i64 x_c.Cur.Win.Top), (.slice a11 x_c.Cur.Win.Bits.length c12)]) x_c.Cur (show R_27 w3 (.agg #[(.int .i64 x_c.Cur.N), (.slice a6 x_c.Cur.Key.length c7), (.int .i64 x_c.Cur.Seq), (.int .i64 x_c.Cur.Win.Top), (.slice a11 x_c.Cur.Win.Bits.length c12)]) x_c.Cur from ⟨_, _, _, _, rfl, (r8.from0 m377), s9, (r13.from0 m377), s14⟩)) ?_
      rintro _ w4 ⟨k407, ⟨a408, c409, a413, c414, rfl, o410, s411, o415, s416, ap418⟩⟩
      have m419 := m377.extk k407
      exact wl_fin k407 ⟨_, _, _, _, rfl, (own_lo o410 k376.size), s411, (own_lo o415 k376.size), s416, ap418, ⟨(Ap.lt o388 o410 (Nat.le_refl _)), (Ap.lt o388 o415 (Nat.le_refl _))⟩⟩
    · intro w3 k420
      have m421 := m42.extk k420
      intro u422
      intro u423
      intro u424
      intro u425
      intro u426
      intro u427
      intro u428
      intro u429
      intro u430
      intro u431
      intro u432
      intro u433
      intro u434
      intro u435
      intro u436
      intro u437
      intro u438
      intro u439
      intro u440
      intro u441
      intro u442
      intro u443
      intro u444
      show WL _ _ _ _ _ _ _
      refine wl_pure (.pointer (some ⟨g31, 7, none⟩)) (want_none rfl) rfl rfl (by kernel_rfl) ?_
      exact wl_fin (Ch.refl _ _) rfl
    · intro w3 k445
      have m446 := m42.extk k445
      intro u447
      intro u448
      intro u449
      intro u450
      intro u451
      intro u452
      intro u453
      intro u454
      intro u455
      rintro _ rfl
      intro u456
      intro u457
      intro u458
      intro u459
      intro u460
      intro u461
      intro u462
      intro u463
      intro u464
      intro u465
      intro u466
      intro u467
      intro u468
      show WL _ _ _ _ _ _ _
      have b469 := ((b35.kp k40).kp k445)
      refine wl_loadN [(.int .i64 x_c.Old.N), (.slice a16 x_c.Old.Key.length c17), (.int .i64 x_c.Old.Seq), (.int .i64 x_c.Old.Win.Top), (.slice a21 x_c.Old.Win.Bits.length c22)] (want_none rfl) rfl rfl rfl rfl isAgg_27 sizeOf_27 b469 rfl ?_
      exact wl_fin (Ch.refl _ _) rfl
    · intro w3 k470
      have m471 := m42.extk k470
      intro u472
      intro u473
      intro u474
      intro u475
      intro u476
      intro u477
      intro u478
      intro u479
      intro u480
      intro u481
      intro u482
      intro u483
      intro u484
      intro u485
      intro u486
      intro u487
      intro u488
      intro u489
      intro u490
      intro u491
      intro u492
      intro u493
      intro u494
      show WL _ _ _ _ _ _ _
      refine wl_pure (.pointer (some ⟨g31, 12, none⟩)) (want_none rfl) rfl rfl (by kernel_rfl) ?_
      exact wl_fin (Ch.refl _ _) rfl
    · intro w3 k495
      have m496 := m42.extk k495
      intro u497
      intro u498
      intro u499
      intro u500
      intro u501
      intro u502
      intro u503
      intro u504
      intro u505
      intro u506
      intro u507
      rintro _ rfl
      intro u508
      intro u509
      intro u510
      intro u511
      intro u512
      intro u513
      intro u514
      intro u515
      intro u516
      intro u517
      intro u518
      show WL _ _ _ _ _ _ _
      have b519 := ((b35.kp k40).kp k495)
      refine wl_load1 (.bool x_c.HasOld) (want_none rfl) rfl rfl rfl rfl isAgg_4 b519 rfl ?_
      exact wl_fin (Ch.refl _ _) rfl
    · intro w3 k520
      have m521 := m42.extk k520
      intro u522
      intro u523
      rintro _ ⟨a524, rfl, o526⟩
      rintro _ rfl
      rintro _ rfl
      rintro _ ⟨a530, c531, rfl, o532, s533, -⟩
      rintro _ rfl
      rintro _ rfl
      rintro _ ⟨a536, c537, a541, c542, rfl, o538, s539, o543, s544, ap546, hx547⟩
      rintro _ rfl
      rintro _ rfl
      rintro _ rfl
      rintro _ rfl
      intro u550
      intro u551
      intro u552
      intro u553
      intro u554
      intro u555
      intro u556
      intro u557
      intro u558
      intro u559
      show WL _ _ _ _ _ _ _
      refine wl_call (want_none rfl) (args := #[(.agg #[(.int .i64 x_c.Old.N), (.slice a16 x_c.Old.Key.length c17), (.int .i64 x_c.Old.Seq), (.int .i64 x_c.Old.Win.Top), (.slice a21 x_c.Old.Win.Bits.length c22)]), (.bool x_c.HasOld)]) rfl rfl (by kernel_rfl) (C_spec_l14Ep w3 (.agg #[(.int .i64 x_c.Old.N), (.slice a16 x_c.Old.Key.length c17), (.int .i64 x_c.Old.Seq), (.int .i64 x_c.Old.Win.Top), (.slice a21 x_c.Old.Win.Bits.length c22)]) x_c.Old (show R_27 w3 (.agg #[(.int .i64 x_c.Old.N), (.slice a16 x_c.Old.Key.length c17), (.int .i64 x_c.Old.Seq), (.int .i64 x_c.Old.Win.Top), (.slice a21 x_c.Old.Win.Bits.length c22)]) x_c.Old from ⟨_, _, _, _, rfl, (r18.from0 m521), s19, (r23.from0 m521), s24⟩) x_c.HasOld) ?_
      rintro _ w4 ⟨k560, ⟨a561, c562, a566, c567, rfl, o563, s564, o568, s569, ap571⟩⟩
      have m572 := m521.extk k560
      exact wl_fin k560 ⟨_, _, _, _, rfl, (own_lo o563 k520.size), s564, (own_lo o568 k520.size), s569, ap571, ⟨(Ap.lt o532 o563 (Nat.le_refl _)), (Ap.lt o532 o568 (Nat.le_refl _)), (Ap.lt o538 o563 (Nat.le_refl _)), (Ap.lt o538 o568 (Nat.le_refl _)), (Ap.lt o543 o563 (Nat.le_refl _)), (Ap.lt o543 o568 (Nat.le_refl _))⟩⟩
    · intro w3 k573
      have m574 := m42.extk k573
      intro u575
      intro u576
      intro u577
      intro u578
      intro u579
      intro u580
      intro u581
      intro u582
      intro u583
      intro u584
      intro u585
      intro u586
      intro u587
      intro u588
      intro u589
      intro u590
      intro u591
      intro u592
      intro u593
      intro u594
      intro u595
      intro u596
      intro u597
      show WL _ _ _ _ _ _ _
      refine wl_pure (.pointer (some ⟨g31, 12, none⟩)) (want_none rfl) rfl rfl (by kernel_rfl) ?_
      exact wl_fin (Ch.refl _ _) rfl
    · intro w3 k598
      have m599 := m42.extk k598
      intro u600
      intro u601
      intro u602
      intro u603
      intro u604
      intro u605
      intro u606
      intro u607
      intro u608
      intro u609
      intro u610
      intro u611
      intro u612
      intro u613
      rintro _ rfl
      intro u614
      intro u615
      intro u616
      intro u617
      intro u618
      intro u619
      intro u620
      intro u621
      show WL _ _ _ _ _ _ _
      have b622 := ((b35.kp k40).kp k598)
      refine wl_load1 (.bool x_c.HasOld) (want_none rfl) rfl rfl rfl rfl isAgg_4 b622 rfl ?_
      exact wl_fin (Ch.refl _ _) rfl
    · intro w3 k623
      have m624 := m42.extk k623
      intro u625
      intro u626
      intro u627
      intro u628
      intro u629
      intro u630
      intro u631
      intro u632
      intro u633
      intro u634
      intro u635
      intro u636
      intro u637
      intro u638
      intro u639
      intro u640
      intro u641
      intro u642
      intro u643
      intro u644
      intro u645
      intro u646
      intro u647
      show WL _ _ _ _ _ _ _
      refine wl_pure (.pointer (some ⟨g31, 13, none⟩)) (want_none rfl) rfl rfl (by kernel_rfl) ?_
      exact wl_fin (Ch.refl _ _) rfl
    · intro w3 k648
      have m649 := m42.extk k648
      intro u650
      intro u651
      intro u652
      intro u653
      intro u654
      intro u655
      intro u656
      intro u657
      intro u658
      intro u659
      intro u660
      intro u661
      intro u662
      intro u663
      intro u664
      intro u665
      rintro _ rfl
      intro u666
      intro u667
      intro u668
      intro u669
      intro u670
      intro u671
      show WL _ _ _ _ _ _ _
      have b672 := ((b35.kp k40).kp k648)
      refine wl_load1 (.int .i64 x_c.Until) (want_none rfl) rfl rfl rfl rfl isAgg_3 b672 rfl ?_
      exact wl_fin (Ch.refl _ _) rfl
    · intro w3 k673
      have m674 := m42.extk k673
      intro u675
      intro u676
      intro u677
      intro u678
      intro u679
      intro u680
      intro u681
      intro u682
      intro u683
      intro u684
      intro u685
      intro u686
      intro u687
      intro u688
      intro u689
      intro u690
      intro u691
      intro u692
      intro u693
      intro u694
      intro u695
      intro u696
      intro u697
      show WL _ _ _ _ _ _ _
      refine wl_lit0 (want_none rfl) rfl rfl slTy_22 (fun w => by kernel_rfl) ?_
      intro a698 w4 k699 o700
      have m701 := m674.extk k699
      exact wl_fin k699 ⟨_, rfl, own_lo o700 k673.size⟩
    · intro w3 k703
      have m704 := m42.extk k703
      intro u705
      intro u706
      intro u707
      intro u708
      intro u709
      intro u710
      intro u711
      intro u712
      intro u713
      intro u714
      intro u715
      intro u716
      intro u717
      intro u718
      intro u719
      intro u720
      intro u721
      intro u722
      intro u723
      intro u724
      intro u725
      intro u726
      intro u727
      show WL _ _ _ _ _ _ _
      refine wl_pure (.pointer (some ⟨g31, 14, none⟩)) (want_none rfl) rfl rfl (by kernel_rfl) ?_
      exact wl_fin (Ch.refl _ _) rfl
    · intro w3 k728
      have m729 := m42.extk k728
      intro u730
      intro u731
      intro u732
      intro u733
      intro u734
      intro u735
      intro u736
      intro u737
      intro u738
      intro u739
      intro u740
      intro u741
      intro u742
      intro u743
      intro u744
      intro u745
      intro u746
      intro u747
      intro u748
      rintro _ rfl
      intro u749
      intro u750
      intro u751
      show WL _ _ _ _ _ _ _
      have b752 := ((b35.kp k40).kp k728)
      refine wl_load1 (.slice a26 x_c.Next.length c27) (want_none rfl) rfl rfl rfl rfl isAgg_22 b752 rfl ?_
      exact wl_fin (Ch.refl _ _) rfl
    · intro w3 k753
      have m754 := m42.extk k753
      intro u755
      intro u756
      rintro _ ⟨a757, rfl, o759⟩
      rintro _ rfl
      rintro _ rfl
      rintro _ ⟨a763, c764, rfl, o765, s766, -⟩
      rintro _ rfl
      rintro _ rfl
      rintro _ ⟨a769, c770, a774, c775, rfl, o771, s772, o776, s777, ap779, hx780⟩
      rintro _ rfl
      rintro _ rfl
      rintro _ rfl
      rintro _ rfl
      rintro _ ⟨a783, c784, a788, c789, rfl, o785, s786, o790, s791, ap793, hx794⟩
      intro u795
      intro u796
      intro u797
      intro u798
      rintro _ ⟨a799, rfl, o801⟩
      rintro _ rfl
      rintro _ rfl
      intro u805
      intro u806
      show WL _ _ _ _ _ _ _
      refine wl_append0 (want_none rfl) rfl rfl rfl slTy_22 rfl rfl o801 (r28.from0 m754) (all_bV _) (by (try simp only [List.length_append, List.length_cons, List.length_nil]); omega) (by simp only [maxLen]; (try simp only [List.length_append, List.length_cons, List.length_nil]); omega) k753.size ?_
      intro u807 w4 k808 o809 j810
      obtain ⟨a811, c812, rfl⟩ := own_form o809
      have n813 : New w3 a811 c812 := j810 _ _ rfl
      have m814 := m754.extk k808
      exact wl_fin k808 ⟨_, _, rfl, o809, s29, ⟨trivial, trivial⟩, ⟨(Ap.new o765 n813 (Nat.le_refl _)), (Ap.new o771 n813 (Nat.le_refl _)), (Ap.new o776 n813 (Nat.le_refl _)), (Ap.new o785 n813 (Nat.le_refl _)), (Ap.new o790 n813 (Nat.le_refl _))⟩⟩
    · intro w3 k816
      have m817 := m42.extk k816
      rintro _ rfl
      rintro _ rfl
      rintro _ ⟨a819, rfl, o821⟩
      rintro _ rfl
      rintro _ rfl
      rintro _ ⟨a825, c826, rfl, o827, s828, -⟩
      rintro _ rfl
      rintro _ rfl
      rintro _ ⟨a831, c832, a836, c837, rfl, o833, s834, o838, s839, ap841, hx842⟩
      rintro _ rfl
      rintro _ rfl
      rintro _ rfl
      rintro _ rfl
      rintro _ ⟨a845, c846, a850, c851, rfl, o847, s848, o852, s853, ap855, hx856⟩
      rintro _ rfl
      rintro _ rfl
      rintro _ rfl
      rintro _ rfl
      rintro _ ⟨a859, rfl, o861⟩
      rintro _ rfl
      rintro _ rfl
      rintro _ ⟨a865, c866, rfl, o867, s868, -, hx870⟩
      intro u871
      show WL _ _ _ _ _ _ _
      refine wl_pure (.agg #[(.int .i64 x_c.Role), (.slice a825 x_c.Sn.length c826), (.int .i64 ((F_spec_l9Copy x_c.Cur).N)), (.slice a831 ((F_spec_l9Copy x_c.Cur).Key).length c832), (.int .i64 ((F_spec_l9Copy x_c.Cur).Seq)), (.int .i64 (((F_spec_l9Copy x_c.Cur).Win).Top)), (.slice a836 (((F_spec_l9Copy x_c.Cur).Win).Bits).length c837), (.int .i64 ((F_spec_l14Ep x_c.Old x_c.HasOld).N)), (.slice a845 ((F_spec_l14Ep x_c.Old x_c.HasOld).Key).length c846), (.int .i64 ((F_spec_l14Ep x_c.Old x_c.HasOld).Seq)), (.int .i64 (((F_spec_l14Ep x_c.Old x_c.HasOld).Win).Top)), (.slice a850 (((F_spec_l14Ep x_c.Old x_c.HasOld).Win).Bits).length c851), (.bool x_c.HasOld), (.int .i64 x_c.Until), (.slice a865 x_c.Next.length c866)]) (want_none rfl) rfl rfl (by kernel_rfl) ?_
      exact wl_fin (Ch.refl _ _) rfl
  · intro w3 k872
    have m873 := m42.extk k872
    rintro _ rfl
    rintro _ rfl
    rintro _ ⟨a875, rfl, o877⟩
    rintro _ rfl
    rintro _ rfl
    rintro _ ⟨a881, c882, rfl, o883, s884, -⟩
    rintro _ rfl
    rintro _ rfl
    rintro _ ⟨a887, c888, a892, c893, rfl, o889, s890, o894, s895, ap897, hx898⟩
    rintro _ rfl
    rintro _ rfl
    rintro _ rfl
    rintro _ rfl
    rintro _ ⟨a901, c902, a906, c907, rfl, o903, s904, o908, s909, ap911, hx912⟩
    rintro _ rfl
    rintro _ rfl
    rintro _ rfl
    rintro _ rfl
    rintro _ ⟨a915, rfl, o917⟩
    rintro _ rfl
    rintro _ rfl
    rintro _ ⟨a921, c922, rfl, o923, s924, -, hx926⟩
    rintro _ rfl
    show WL _ _ _ _ _ _ _
    have b927 := (b41.kp k872)
    refine wl_store (.agg #[(.int .i64 x_c.Role), (.slice a881 x_c.Sn.length c882), (.int .i64 ((F_spec_l9Copy x_c.Cur).N)), (.slice a887 ((F_spec_l9Copy x_c.Cur).Key).length c888), (.int .i64 ((F_spec_l9Copy x_c.Cur).Seq)), (.int .i64 (((F_spec_l9Copy x_c.Cur).Win).Top)), (.slice a892 (((F_spec_l9Copy x_c.Cur).Win).Bits).length c893), (.int .i64 ((F_spec_l14Ep x_c.Old x_c.HasOld).N)), (.slice a901 ((F_spec_l14Ep x_c.Old x_c.HasOld).Key).length c902), (.int .i64 ((F_spec_l14Ep x_c.Old x_c.HasOld).Seq)), (.int .i64 (((F_spec_l14Ep x_c.Old x_c.HasOld).Win).Top)), (.slice a906 (((F_spec_l14Ep x_c.Old x_c.HasOld).Win).Bits).length c907), (.bool x_c.HasOld), (.int .i64 x_c.Until), (.slice a921 x_c.Next.length c922)]) [(.int .i64 x_c.Role), (.slice a881 x_c.Sn.length c882), (.int .i64 ((F_spec_l9Copy x_c.Cur).N)), (.slice a887 ((F_spec_l9Copy x_c.Cur).Key).length c888), (.int .i64 ((F_spec_l9Copy x_c.Cur).Seq)), (.int .i64 (((F_spec_l9Copy x_c.Cur).Win).Top)), (.slice a892 (((F_spec_l9Copy x_c.Cur).Win).Bits).length c893), (.int .i64 ((F_spec_l14Ep x_c.Old x_c.HasOld).N)), (.slice a901 ((F_spec_l14Ep x_c.Old x_c.HasOld).Key).length c902), (.int .i64 ((F_spec_l14Ep x_c.Old x_c.HasOld).Seq)), (.int .i64 (((F_spec_l14Ep x_c.Old x_c.HasOld).Win).Top)), (.slice a906 (((F_spec_l14Ep x_c.Old x_c.HasOld).Win).Bits).length c907), (.bool x_c.HasOld), (.int .i64 x_c.Until), (.slice a921 x_c.Next.length c922)] [(.int .i64 x_c.Role), (.slice a881 x_c.Sn.length c882), (.int .i64 ((F_spec_l9Copy x_c.Cur).N)), (.slice a887 ((F_spec_l9Copy x_c.Cur).Key).length c888), (.int .i64 ((F_spec_l9Copy x_c.Cur).Seq)), (.int .i64 (((F_spec_l9Copy x_c.Cur).Win).Top)), (.slice a892 (((F_spec_l9Copy x_c.Cur).Win).Bits).length c893), (.int .i64 ((F_spec_l14Ep x_c.Old x_c.HasOld).N)), (.slice a901 ((F_spec_l14Ep x_c.Old x_c.HasOld).Key).length c902), (.int .i64 ((F_spec_l14Ep x_c.Old x_c.HasOld).Seq)), (.int .i64 (((F_spec_l14Ep x_c.Old x_c.HasOld).Win).Top)), (.slice a906 (((F_spec_l14Ep x_c.Old x_c.HasOld).Win).Bits).length c907), (.bool x_c.HasOld), (.int .i64 x_c.Until), (.slice a921 x_c.Next.length c922)] (want_none rfl) rfl rfl rfl rfl rfl (one_cons rfl (one_cons rfl (one_cons rfl (one_cons rfl (one_cons rfl (one_cons rfl (one_cons rfl (one_cons rfl (one_cons rfl (one_cons rfl (one_cons rfl (one_cons rfl (one_cons rfl (one_cons rfl (one_cons rfl one_nil))))))))))))))) sizeOf_29 b927 rfl rfl ?_
    intro w4 k928 b929 z930
    have m931 := m873.ext k928 (fun k hk => by subst hk; exact Nat.le_trans k34.size p38)
    refine wl_nil ?_
    refine wq_then ?_
    refine wc_ret ?_
    have o932 := (own_ch o883 k928 (fun g hg hlt hk => by have h1 := (own_lt o883 g hg).1; have h2 := Nat.lt_of_lt_of_le p39 (Nat.le_refl _); omega))
    have o933 := (own_ch o889 k928 (fun g hg hlt hk => by have h1 := (own_lt o889 g hg).1; have h2 := Nat.lt_of_lt_of_le p39 (Nat.le_refl _); omega))
    have o934 := (own_ch o894 k928 (fun g hg hlt hk => by have h1 := (own_lt o894 g hg).1; have h2 := Nat.lt_of_lt_of_le p39 (Nat.le_refl _); omega))
    have o935 := (own_ch o903 k928 (fun g hg hlt hk => by have h1 := (own_lt o903 g hg).1; have h2 := Nat.lt_of_lt_of_le p39 (Nat.le_refl _); omega))
    have o936 := (own_ch o908 k928 (fun g hg hlt hk => by have h1 := (own_lt o908 g hg).1; have h2 := Nat.lt_of_lt_of_le p39 (Nat.le_refl _); omega))
    have o937 := (own_ch o923 k928 (fun g hg hlt hk => by have h1 := (own_lt o923 g hg).1; have h2 := Nat.lt_of_lt_of_le p39 (Nat.le_refl _); omega))
    refine ret_1 (.inl rfl) (.agg #[(.int .i64 x_c.Role), (.slice a881 x_c.Sn.length c882), (.int .i64 ((F_spec_l9Copy x_c.Cur).N)), (.slice a887 ((F_spec_l9Copy x_c.Cur).Key).length c888), (.int .i64 ((F_spec_l9Copy x_c.Cur).Seq)), (.int .i64 (((F_spec_l9Copy x_c.Cur).Win).Top)), (.slice a892 (((F_spec_l9Copy x_c.Cur).Win).Bits).length c893), (.int .i64 ((F_spec_l14Ep x_c.Old x_c.HasOld).N)), (.slice a901 ((F_spec_l14Ep x_c.Old x_c.HasOld).Key).length c902), (.int .i64 ((F_spec_l14Ep x_c.Old x_c.HasOld).Seq)), (.int .i64 (((F_spec_l14Ep x_c.Old x_c.HasOld).Win).Top)), (.slice a906 (((F_spec_l14Ep x_c.Old x_c.HasOld).Win).Bits).length c907), (.bool x_c.HasOld), (.int .i64 x_c.Until), (.slice a921 x_c.Next.length c922)]) rfl (rv_c [(.int .i64 x_c.Role), (.slice a881 x_c.Sn.length c882), (.int .i64 ((F_spec_l9Copy x_c.Cur).N)), (.slice a887 ((F_spec_l9Copy x_c.Cur).Key).length c888), (.int .i64 ((F_spec_l9Copy x_c.Cur).Seq)), (.int .i64 (((F_spec_l9Copy x_c.Cur).Win).Top)), (.slice a892 (((F_spec_l9Copy x_c.Cur).Win).Bits).length c893), (.int .i64 ((F_spec_l14Ep x_c.Old x_c.HasOld).N)), (.slice a901 ((F_spec_l14Ep x_c.Old x_c.HasOld).Key).length c902), (.int .i64 ((F_spec_l14Ep x_c.Old x_c.HasOld).Seq)), (.int .i64 (((F_spec_l14Ep x_c.Old x_c.HasOld).Win).Top)), (.slice a906 (((F_spec_l14Ep x_c.Old x_c.HasOld).Win).Bits).length c907), (.bool x_c.HasOld), (.int .i64 x_c.Until), (.slice a921 x_c.Next.length c922)] rfl b929 isAgg_29 sizeOf_29) ?_
    refine ⟨m931.keep0, ?_⟩
    have hF938 : F_spec_l14Copy x_c = { Role := x_c.Role, Sn := x_c.Sn, Cur := (F_spec_l9Copy x_c.Cur), Old := (F_spec_l14Ep x_c.Old x_c.HasOld), HasOld := x_c.HasOld, Until := x_c.Until, Next := x_c.Next : PChan } := by rfl
    rw [hF938]
    exact ⟨_, _, _, _, _, _, _, _, _, _, _, _, rfl, (own_lo o932 (Nat.le_trans k34.size k40.size)), s884, (own_lo o933 (Nat.le_trans k34.size k40.size)), s890, (own_lo o934 (Nat.le_trans k34.size k40.size)), s895, (own_lo o935 (Nat.le_trans k34.size k40.size)), s904, (own_lo o936 (Nat.le_trans k34.size k40.size)), s909, (own_lo o937 (Nat.le_trans k34.size k40.size)), s924, ⟨⟨(hx898.1), ⟨(hx898.2), ⟨(hx912.1), ⟨(hx912.2.1), ⟨(hx926.1), trivial⟩⟩⟩⟩⟩, ⟨⟨(ap897.1.1), ⟨(hx912.2.2.1), ⟨(hx912.2.2.2.1), ⟨(hx926.2.1), trivial⟩⟩⟩⟩, ⟨⟨(hx912.2.2.2.2.1), ⟨(hx912.2.2.2.2.2), ⟨(hx926.2.2.1), trivial⟩⟩⟩, ⟨⟨(ap911.1.1), ⟨(hx926.2.2.2.1), trivial⟩⟩, ⟨⟨(hx926.2.2.2.2), trivial⟩, ⟨trivial, trivial⟩⟩⟩⟩⟩⟩⟩

def F_spec_ChanTick (x_c : PChan) (x_now : Int) : (PChan) := bif (F_spec_ChanOk x_c) then (bif (F_spec_l1In x_now 0 1000000) then (bif x_c.HasOld then (bif (decide (x_c.Until = (-1))) then ((F_spec_l14Copy x_c)) else (bif (decide (x_c.Until < x_now)) then ({ Role := (F_spec_l14Copy x_c).Role, Sn := (F_spec_l14Copy x_c).Sn, Cur := ((F_spec_l14Copy x_c).Cur), Old := { N := 0, Key := [], Seq := 0, Win := { Top := 0, Bits := [] : PWin } : PEp }, HasOld := false, Until := 0, Next := (F_spec_l14Copy x_c).Next : PChan }) else ((F_spec_l14Copy x_c)))) else ((F_spec_l14Copy x_c))) else ((F_spec_l14Copy x_c))) else ((F_spec_l14Copy x_c))
theorem C_spec_ChanTick (w0 : World) (v_x_c : Value) (x_c : PChan) (r_x_c : R_29 w0 v_x_c x_c) (x_now : Int)  : Fn Try.prog 37 #[v_x_c, (.int .i64 x_now)] w0 (fun v w' => Keep w0 w' ∧ O_29 w' w0.heap.size v (F_spec_ChanTick x_c x_now)) := by
  obtain ⟨a1, c2, a6, c7, a11, c12, a16, c17, a21, c22, a26, c27, rfl, r3, s4, r8, s9, r13, s14, r18, s19, r23, s24, r28, s29⟩ := r_x_c
  refine fn_of (n := 34) (l := [(.agg #[(.int .i64 x_c.Role), (.slice a1 x_c.Sn.length c2), (.int .i64 x_c.Cur.N), (.slice a6 x_c.Cur.Key.length c7), (.int .i64 x_c.Cur.Seq), (.int .i64 x_c.Cur.Win.Top), (.slice a11 x_c.Cur.Win.Bits.length c12), (.int .i64 x_c.Old.N), (.slice a16 x_c.Old.Key.length c17), (.int .i64 x_c.Old.Seq), (.int .i64 x_c.Old.Win.Top), (.slice a21 x_c.Old.Win.Bits.length c22), (.bool x_c.HasOld), (.int .i64 x_c.Until), (.slice a26 x_c.Next.length c27)]), (.int .i64 x_now), undef, undef, undef, undef, undef, undef, undef, undef, undef, undef, undef, undef, undef, undef, undef, undef, undef, undef, undef, undef, undef, undef, undef, undef, undef, undef, undef, undef, undef, undef, undef, undef]) Try.func37 rfl rfl (by kernel_rfl) rfl ?_
  refine wc_seq ?_
  refine wc_region ?_
  refine wl_box (want_none rfl) [(.int .i64 x_c.Role), (.slice a1 x_c.Sn.length c2), (.int .i64 x_c.Cur.N), (.slice a6 x_c.Cur.Key.length c7), (.int .i64 x_c.Cur.Seq), (.int .i64 x_c.Cur.Win.Top), (.slice a11 x_c.Cur.Win.Bits.length c12), (.int .i64 x_c.Old.N), (.slice a16 x_c.Old.Key.length c17), (.int .i64 x_c.Old.Seq), (.int .i64 x_c.Old.Win.Top), (.slice a21 x_c.Old.Win.Bits.length c22), (.bool x_c.HasOld), (.int .i64 x_c.Until), (.slice a26 x_c.Next.length c27)] rfl rfl rfl rfl ?_
  intro g31 w1 p32 p33 k34 b35
  have m36 := (Ch.base w0).extk k34
  refine wl_alloc (want_none rfl) (.agg #[(.int .i64 0), (.slice none 0 0), (.int .i64 0), (.slice none 0 0), (.int .i64 0), (.int .i64 0), (.slice none 0 0), (.int .i64 0), (.slice none 0 0), (.int .i64 0), (.int .i64 0), (.slice none 0 0), (.bool false), (.int .i64 0), (.slice none 0 0)]) [(.int .i64 0), (.slice none 0 0), (.int .i64 0), (.slice none 0 0), (.int .i64 0), (.int .i64 0), (.slice none 0 0), (.int .i64 0), (.slice none 0 0), (.int .i64 0), (.int .i64 0), (.slice none 0 0), (.bool false), (.int .i64 0), (.slice none 0 0)] zero_29 rfl rfl rfl rfl ?_
  intro g37 w2 p38 p39 k40 b41
  have m42 := m36.extk k40
  refine wl_nil ?_
  refine wq_then ?_
  refine wc_seq ?_
  refine wc_region ?_
  have b43 := (b35.kp k40)
  refine wl_loadN [(.int .i64 x_c.Role), (.slice a1 x_c.Sn.length c2), (.int .i64 x_c.Cur.N), (.slice a6 x_c.Cur.Key.length c7), (.int .i64 x_c.Cur.Seq), (.int .i64 x_c.Cur.Win.Top), (.slice a11 x_c.Cur.Win.Bits.length c12), (.int .i64 x_c.Old.N), (.slice a16 x_c.Old.Key.length c17), (.int .i64 x_c.Old.Seq), (.int .i64 x_c.Old.Win.Top), (.slice a21 x_c.Old.Win.Bits.length c22), (.bool x_c.HasOld), (.int .i64 x_c.Until), (.slice a26 x_c.Next.length c27)] (want_none rfl) rfl rfl rfl rfl isAgg_29 sizeOf_29 b43 rfl ?_
  refine wl_call (want_none rfl) (args := #[(.agg #[(.int .i64 x_c.Role), (.slice a1 x_c.Sn.length c2), (.int .i64 x_c.Cur.N), (.slice a6 x_c.Cur.Key.length c7), (.int .i64 x_c.Cur.Seq), (.int .i64 x_c.Cur.Win.Top), (.slice a11 x_c.Cur.Win.Bits.length c12), (.int .i64 x_c.Old.N), (.slice a16 x_c.Old.Key.length c17), (.int .i64 x_c.Old.Seq), (.int .i64 x_c.Old.Win.Top), (.slice a21 x_c.Old.Win.Bits.length c22), (.bool x_c.HasOld), (.int .i64 x_c.Until), (.slice a26 x_c.Next.length c27)])]) rfl rfl (by kernel_rfl) (C_spec_l14Copy w2 (.agg #[(.int .i64 x_c.Role), (.slice a1 x_c.Sn.length c2), (.int .i64 x_c.Cur.N), (.slice a6 x_c.Cur.Key.length c7), (.int .i64 x_c.Cur.Seq), (.int .i64 x_c.Cur.Win.Top), (.slice a11 x_c.Cur.Win.Bits.length c12), (.int .i64 x_c.Old.N), (.slice a16 x_c.Old.Key.length c17), (.int .i64 x_c.Old.Seq), (.int .i64 x_c.Old.Win.Top), (.slice a21 x_c.Old.Win.Bits.length c22), (.bool x_c.HasOld), (.int .i64 x_c.Until), (.slice a26 x_c.Next.length c27)]) x_c (show R_29 w2 (.agg #[(.int .i64 x_c.Role), (.slice a1 x_c.Sn.length c2), (.int .i64 x_c.Cur.N), (.slice a6 x_c.Cur.Key.length c7), (.int .i64 x_c.Cur.Seq), (.int .i64 x_c.Cur.Win.Top), (.slice a11 x_c.Cur.Win.Bits.length c12), (.int .i64 x_c.Old.N), (.slice a16 x_c.Old.Key.length c17), (.int .i64 x_c.Old.Seq), (.int .i64 x_c.Old.Win.Top), (.slice a21 x_c.Old.Win.Bits.length c22), (.bool x_c.HasOld), (.int .i64 x_c.Until), (.slice a26 x_c.Next.length c27)]) x_c from ⟨_, _, _, _, _, _, _, _, _, _, _, _, rfl, (r3.from0 m42), s4, (r8.from0 m42), s9, (r13.from0 m42), s14, (r18.from0 m42), s19, (r23.from0 m42), s24, (r28.from0 m42), s29⟩)) ?_
  rintro _ w3 ⟨k44, ⟨a45, c46, a50, c51, a55, c56, a60, c61, a65, c66, a70, c71, rfl, o47, s48, o52, s53, o57, s58, o62, s63, o67, s68, o72, s73, ap75⟩⟩
  have m76 := m42.extk k44
  refine wl_alloc (want_none rfl) (.agg #[(.int .i64 0), (.slice none 0 0), (.int .i64 0), (.slice none 0 0), (.int .i64 0), (.int .i64 0), (.slice none 0 0), (.int .i64 0), (.slice none 0 0), (.int .i64 0), (.int .i64 0), (.slice none 0 0), (.bool false), (.int .i64 0), (.slice none 0 0)]) [(.int .i64 0), (.slice none 0 0), (.int .i64 0), (.slice none 0 0), (.int .i64 0), (.int .i64 0), (.slice none 0 0), (.int .i64 0), (.slice none 0 0), (.int .i64 0), (.int .i64 0), (.slice none 0 0), (.bool false), (.int .i64 0), (.slice none 0 0)] zero_29 rfl rfl rfl rfl ?_
  intro g77 w4 p78 p79 k80 b81
  have m82 := m76.extk k80
  refine wl_store (.agg #[(.int .i64 ((F_spec_l14Copy x_c).Role)), (.slice a45 ((F_spec_l14Copy x_c).Sn).length c46), (.int .i64 (((F_spec_l14Copy x_c).Cur).N)), (.slice a50 (((F_spec_l14Copy x_c).Cur).Key).length c51), (.int .i64 (((F_spec_l14Copy x_c).Cur).Seq)), (.int .i64 ((((F_spec_l14Copy x_c).Cur).Win).Top)), (.slice a55 ((((F_spec_l14Copy x_c).Cur).Win).Bits).length c56), (.int .i64 (((F_spec_l14Copy x_c).Old).N)), (.slice a60 (((F_spec_l14Copy x_c).Old).Key).length c61), (.int .i64 (((F_spec_l14Copy x_c).Old).Seq)), (.int .i64 ((((F_spec_l14Copy x_c).Old).Win).Top)), (.slice a65 ((((F_spec_l14Copy x_c).Old).Win).Bits).length c66), (.bool ((F_spec_l14Copy x_c).HasOld)), (.int .i64 ((F_spec_l14Copy x_c).Until)), (.slice a70 ((F_spec_l14Copy x_c).Next).length c71)]) [(.int .i64 ((F_spec_l14Copy x_c).Role)), (.slice a45 ((F_spec_l14Copy x_c).Sn).length c46), (.int .i64 (((F_spec_l14Copy x_c).Cur).N)), (.slice a50 (((F_spec_l14Copy x_c).Cur).Key).length c51), (.int .i64 (((F_spec_l14Copy x_c).Cur).Seq)), (.int .i64 ((((F_spec_l14Copy x_c).Cur).Win).Top)), (.slice a55 ((((F_spec_l14Copy x_c).Cur).Win).Bits).length c56), (.int .i64 (((F_spec_l14Copy x_c).Old).N)), (.slice a60 (((F_spec_l14Copy x_c).Old).Key).length c61), (.int .i64 (((F_spec_l14Copy x_c).Old).Seq)), (.int .i64 ((((F_spec_l14Copy x_c).Old).Win).Top)), (.slice a65 ((((F_spec_l14Copy x_c).Old).Win).Bits).length c66), (.bool ((F_spec_l14Copy x_c).HasOld)), (.int .i64 ((F_spec_l14Copy x_c).Until)), (.slice a70 ((F_spec_l14Copy x_c).Next).length c71)] [(.int .i64 ((F_spec_l14Copy x_c).Role)), (.slice a45 ((F_spec_l14Copy x_c).Sn).length c46), (.int .i64 (((F_spec_l14Copy x_c).Cur).N)), (.slice a50 (((F_spec_l14Copy x_c).Cur).Key).length c51), (.int .i64 (((F_spec_l14Copy x_c).Cur).Seq)), (.int .i64 ((((F_spec_l14Copy x_c).Cur).Win).Top)), (.slice a55 ((((F_spec_l14Copy x_c).Cur).Win).Bits).length c56), (.int .i64 (((F_spec_l14Copy x_c).Old).N)), (.slice a60 (((F_spec_l14Copy x_c).Old).Key).length c61), (.int .i64 (((F_spec_l14Copy x_c).Old).Seq)), (.int .i64 ((((F_spec_l14Copy x_c).Old).Win).Top)), (.slice a65 ((((F_spec_l14Copy x_c).Old).Win).Bits).length c66), (.bool ((F_spec_l14Copy x_c).HasOld)), (.int .i64 ((F_spec_l14Copy x_c).Until)), (.slice a70 ((F_spec_l14Copy x_c).Next).length c71)] (want_none rfl) rfl rfl rfl rfl rfl (one_cons rfl (one_cons rfl (one_cons rfl (one_cons rfl (one_cons rfl (one_cons rfl (one_cons rfl (one_cons rfl (one_cons rfl (one_cons rfl (one_cons rfl (one_cons rfl (one_cons rfl (one_cons rfl (one_cons rfl one_nil))))))))))))))) sizeOf_29 b81 rfl rfl ?_
  intro w5 k83 b84 z85
  have m86 := m82.ext k83 (fun k hk => by subst hk; exact Nat.le_trans (Nat.le_trans (Nat.le_trans k34.size k40.size) k44.size) p78)
  refine wl_nil ?_
  refine wq_then ?_
  refine wc_seq ?_
  refine wc_seq ?_
  refine wc_region ?_
  have b87 := (((b43.kp k44).kp k80).ch k83 (Nat.ne_of_lt (Nat.lt_of_lt_of_le p33 (Nat.le_trans (Nat.le_trans k40.size k44.size) p78))))
  refine wl_loadN [(.int .i64 x_c.Role), (.slice a1 x_c.Sn.length c2), (.int .i64 x_c.Cur.N), (.slice a6 x_c.Cur.Key.length c7), (.int .i64 x_c.Cur.Seq), (.int .i64 x_c.Cur.Win.Top), (.slice a11 x_c.Cur.Win.Bits.length c12), (.int .i64 x_c.Old.N), (.slice a16 x_c.Old.Key.length c17), (.int .i64 x_c.Old.Seq), (.int .i64 x_c.Old.Win.Top), (.slice a21 x_c.Old.Win.Bits.length c22), (.bool x_c.HasOld), (.int .i64 x_c.Until), (.slice a26 x_c.Next.length c27)] (want_none rfl) rfl rfl rfl rfl isAgg_29 sizeOf_29 b87 rfl ?_
  refine wl_call (want_none rfl) (args := #[(.agg #[(.int .i64 x_c.Role), (.slice a1 x_c.Sn.length c2), (.int .i64 x_c.Cur.N), (.slice a6 x_c.Cur.Key.length c7), (.int .i64 x_c.Cur.Seq), (.int .i64 x_c.Cur.Win.Top), (.slice a11 x_c.Cur.Win.Bits.length c12), (.int .i64 x_c.Old.N), (.slice a16 x_c.Old.Key.length c17), (.int .i64 x_c.Old.Seq), (.int .i64 x_c.Old.Win.Top), (.slice a21 x_c.Old.Win.Bits.length c22), (.bool x_c.HasOld), (.int .i64 x_c.Until), (.slice a26 x_c.Next.length c27)])]) rfl rfl (by kernel_rfl) (C_spec_ChanOk w5 (.agg #[(.int .i64 x_c.Role), (.slice a1 x_c.Sn.length c2), (.int .i64 x_c.Cur.N), (.slice a6 x_c.Cur.Key.length c7), (.int .i64 x_c.Cur.Seq), (.int .i64 x_c.Cur.Win.Top), (.slice a11 x_c.Cur.Win.Bits.length c12), (.int .i64 x_c.Old.N), (.slice a16 x_c.Old.Key.length c17), (.int .i64 x_c.Old.Seq), (.int .i64 x_c.Old.Win.Top), (.slice a21 x_c.Old.Win.Bits.length c22), (.bool x_c.HasOld), (.int .i64 x_c.Until), (.slice a26 x_c.Next.length c27)]) x_c (show R_29 w5 (.agg #[(.int .i64 x_c.Role), (.slice a1 x_c.Sn.length c2), (.int .i64 x_c.Cur.N), (.slice a6 x_c.Cur.Key.length c7), (.int .i64 x_c.Cur.Seq), (.int .i64 x_c.Cur.Win.Top), (.slice a11 x_c.Cur.Win.Bits.length c12), (.int .i64 x_c.Old.N), (.slice a16 x_c.Old.Key.length c17), (.int .i64 x_c.Old.Seq), (.int .i64 x_c.Old.Win.Top), (.slice a21 x_c.Old.Win.Bits.length c22), (.bool x_c.HasOld), (.int .i64 x_c.Until), (.slice a26 x_c.Next.length c27)]) x_c from ⟨_, _, _, _, _, _, _, _, _, _, _, _, rfl, (r3.from0 m86), s4, (r8.from0 m86), s9, (r13.from0 m86), s14, (r18.from0 m86), s19, (r23.from0 m86), s24, (r28.from0 m86), s29⟩)) ?_
  rintro _ w6 ⟨k88, rfl⟩
  have m89 := m86.extk k88
  refine wl_mv (.bool (F_spec_ChanOk x_c)) (want_none rfl) rfl rfl (.inl rfl) rfl ?_
  rcases Bool.eq_false_or_eq_true (F_spec_ChanOk x_c) with h90 | h90
  · have q91 := spec_ChanOk_t h90
    refine wl_mv (.int .i64 x_now) (want_some rfl rfl rfl (congrArg Value.bool h90)) rfl rfl (.inl rfl) rfl ?_
    refine wl_call (want_some rfl rfl rfl (congrArg Value.bool h90)) (args := #[(.int .i64 x_now), (.int .i64 0), (.int .i64 1000000)]) rfl rfl (by kernel_rfl) (C_spec_l1In w6 x_now 0 1000000) ?_
    rintro _ w7 ⟨k92, rfl⟩
    have m93 := m89.extk k92
    refine wl_pick_t (.bool (F_spec_l1In x_now 0 1000000)) (want_none rfl) rfl rfl rfl (congrArg Value.bool h90) rfl ?_
    refine wl_mv (.bool (F_spec_l1In x_now 0 1000000)) (want_none rfl) rfl rfl (.inl rfl) rfl ?_
    rcases Bool.eq_false_or_eq_true (F_spec_l1In x_now 0 1000000) with h94 | h94
    · have q95 := spec_l1In_t h94
      refine wl_pure (.pointer (some ⟨g31, 12, none⟩)) (want_some rfl rfl rfl (congrArg Value.bool h94)) rfl rfl (by kernel_rfl) ?_
      have b96 := ((b87.kp k88).kp k92)
      refine wl_load1 (.bool x_c.HasOld) (want_some rfl rfl rfl (congrArg Value.bool h94)) rfl rfl rfl rfl isAgg_4 b96 rfl ?_
      refine wl_pick_t (.bool x_c.HasOld) (want_none rfl) rfl rfl rfl (congrArg Value.bool h94) rfl ?_
      refine wl_mv (.bool x_c.HasOld) (want_none rfl) rfl rfl (.inl rfl) rfl ?_
      rcases Bool.eq_false_or_eq_true x_c.HasOld with h97 | h97
      · skip
        refine wl_pure (.pointer (some ⟨g31, 13, none⟩)) (want_some rfl rfl rfl (congrArg Value.bool h97)) rfl rfl (by kernel_rfl) ?_
        refine wl_load1 (.int .i64 x_c.Until) (want_some rfl rfl rfl (congrArg Value.bool h97)) rfl rfl rfl rfl isAgg_3 b96 rfl ?_
        refine wl_pure (.bool (!(decide (x_c.Until = (-1))))) (want_some rfl rfl rfl (congrArg Value.bool h97)) rfl rfl (by kernel_rfl) ?_
        refine wl_pick_t (.bool (!(decide (x_c.Until = (-1))))) (want_none rfl) rfl rfl rfl (congrArg Value.bool h97) rfl ?_
        refine wl_mv (.bool (!(decide (x_c.Until = (-1))))) (want_none rfl) rfl rfl (.inl rfl) rfl ?_
        rcases Bool.eq_false_or_eq_true (decide (x_c.Until = (-1))) with h99 | h99
        · have q100 := of_decide_eq_true h99
          refine wl_skip rfl rfl rfl (congrArg (fun b => Value.bool (!b)) h99) rfl rfl rfl ?_
          refine wl_skip rfl rfl rfl (congrArg (fun b => Value.bool (!b)) h99) rfl rfl rfl ?_
          refine wl_skip rfl rfl rfl (congrArg (fun b => Value.bool (!b)) h99) rfl rfl rfl ?_
          refine wl_skip rfl rfl rfl (congrArg (fun b => Value.bool (!b)) h99) rfl rfl rfl ?_
          refine wl_pick_f (.bool false) (want_none rfl) rfl rfl rfl (congrArg (fun b => Value.bool (!b)) h99) rfl ?_
          refine wl_nil ?_
          refine wq_then ?_
          refine wc_false rfl ?_
          refine wc_skip ?_
          refine wq_then ?_
          refine wc_seq ?_
          refine wc_region ?_
          have b101 := ((b84.kp k88).kp k92)
          refine wl_loadN [(.int .i64 ((F_spec_l14Copy x_c).Role)), (.slice a45 ((F_spec_l14Copy x_c).Sn).length c46), (.int .i64 (((F_spec_l14Copy x_c).Cur).N)), (.slice a50 (((F_spec_l14Copy x_c).Cur).Key).length c51), (.int .i64 (((F_spec_l14Copy x_c).Cur).Seq)), (.int .i64 ((((F_spec_l14Copy x_c).Cur).Win).Top)), (.slice a55 ((((F_spec_l14Copy x_c).Cur).Win).Bits).length c56), (.int .i64 (((F_spec_l14Copy x_c).Old).N)), (.slice a60 (((F_spec_l14Copy x_c).Old).Key).length c61), (.int .i64 (((F_spec_l14Copy x_c).Old).Seq)), (.int .i64 ((((F_spec_l14Copy x_c).Old).Win).Top)), (.slice a65 ((((F_spec_l14Copy x_c).Old).Win).Bits).length c66), (.bool ((F_spec_l14Copy x_c).HasOld)), (.int .i64 ((F_spec_l14Copy x_c).Until)), (.slice a70 ((F_spec_l14Copy x_c).Next).length c71)] (want_none rfl) rfl rfl rfl rfl isAgg_29 sizeOf_29 b101 rfl ?_
          have b102 := (((((b41.kp k44).kp k80).ch k83 (Nat.ne_of_lt (Nat.lt_of_lt_of_le p39 (Nat.le_trans k44.size p78)))).kp k88).kp k92)
          refine wl_store (.agg #[(.int .i64 ((F_spec_l14Copy x_c).Role)), (.slice a45 ((F_spec_l14Copy x_c).Sn).length c46), (.int .i64 (((F_spec_l14Copy x_c).Cur).N)), (.slice a50 (((F_spec_l14Copy x_c).Cur).Key).length c51), (.int .i64 (((F_spec_l14Copy x_c).Cur).Seq)), (.int .i64 ((((F_spec_l14Copy x_c).Cur).Win).Top)), (.slice a55 ((((F_spec_l14Copy x_c).Cur).Win).Bits).length c56), (.int .i64 (((F_spec_l14Copy x_c).Old).N)), (.slice a60 (((F_spec_l14Copy x_c).Old).Key).length c61), (.int .i64 (((F_spec_l14Copy x_c).Old).Seq)), (.int .i64 ((((F_spec_l14Copy x_c).Old).Win).Top)), (.slice a65 ((((F_spec_l14Copy x_c).Old).Win).Bits).length c66), (.bool ((F_spec_l14Copy x_c).HasOld)), (.int .i64 ((F_spec_l14Copy x_c).Until)), (.slice a70 ((F_spec_l14Copy x_c).Next).length c71)]) [(.int .i64 ((F_spec_l14Copy x_c).Role)), (.slice a45 ((F_spec_l14Copy x_c).Sn).length c46), (.int .i64 (((F_spec_l14Copy x_c).Cur).N)), (.slice a50 (((F_spec_l14Copy x_c).Cur).Key).length c51), (.int .i64 (((F_spec_l14Copy x_c).Cur).Seq)), (.int .i64 ((((F_spec_l14Copy x_c).Cur).Win).Top)), (.slice a55 ((((F_spec_l14Copy x_c).Cur).Win).Bits).length c56), (.int .i64 (((F_spec_l14Copy x_c).Old).N)), (.slice a60 (((F_spec_l14Copy x_c).Old).Key).length c61), (.int .i64 (((F_spec_l14Copy x_c).Old).Seq)), (.int .i64 ((((F_spec_l14Copy x_c).Old).Win).Top)), (.slice a65 ((((F_spec_l14Copy x_c).Old).Win).Bits).length c66), (.bool ((F_spec_l14Copy x_c).HasOld)), (.int .i64 ((F_spec_l14Copy x_c).Until)), (.slice a70 ((F_spec_l14Copy x_c).Next).length c71)] [(.int .i64 ((F_spec_l14Copy x_c).Role)), (.slice a45 ((F_spec_l14Copy x_c).Sn).length c46), (.int .i64 (((F_spec_l14Copy x_c).Cur).N)), (.slice a50 (((F_spec_l14Copy x_c).Cur).Key).length c51), (.int .i64 (((F_spec_l14Copy x_c).Cur).Seq)), (.int .i64 ((((F_spec_l14Copy x_c).Cur).Win).Top)), (.slice a55 ((((F_spec_l14Copy x_c).Cur).Win).Bits).length c56), (.int .i64 (((F_spec_l14Copy x_c).Old).N)), (.slice a60 (((F_spec_l14Copy x_c).Old).Key).length c61), (.int .i64 (((F_spec_l14Copy x_c).Old).Seq)), (.int .i64 ((((F_spec_l14Copy x_c).Old).Win).Top)), (.slice a65 ((((F_spec_l14Copy x_c).Old).Win).Bits).length c66), (.bool ((F_spec_l14Copy x_c).HasOld)), (.int .i64 ((F_spec_l14Copy x_c).Until)), (.slice a70 ((F_spec_l14Copy x_c).Next).length c71)] (want_none rfl) rfl rfl rfl rfl rfl (one_cons rfl (one_cons rfl (one_cons rfl (one_cons rfl (one_cons rfl (one_cons rfl (one_cons rfl (one_cons rfl (one_cons rfl (one_cons rfl (one_cons rfl (one_cons rfl (one_cons rfl (one_cons rfl (one_cons rfl one_nil))))))))))))))) sizeOf_29 b102 rfl rfl ?_
          intro w8 k103 b104 z105
          have m106 := m93.ext k103 (fun k hk => by subst hk; exact Nat.le_trans k34.size p38)
          refine wl_nil ?_
          refine wq_then ?_
          refine wc_ret ?_
          have o107 := (own_ch (own_kp (own_kp (own_ch (own_kp o47 k80) k83 (fun g hg hlt hk => by have h1 := (own_lt o47 g hg).2; have h2 := Nat.le_trans (Nat.le_refl _) p78; omega)) k88) k92) k103 (fun g hg hlt hk => by have h1 := (own_lt o47 g hg).1; have h2 := Nat.lt_of_lt_of_le p39 (Nat.le_refl _); omega))
          have o108 := (own_ch (own_kp (own_kp (own_ch (own_kp o52 k80) k83 (fun g hg hlt hk => by have h1 := (own_lt o52 g hg).2; have h2 := Nat.le_trans (Nat.le_refl _) p78; omega)) k88) k92) k103 (fun g hg hlt hk => by have h1 := (own_lt o52 g hg).1; have h2 := Nat.lt_of_lt_of_le p39 (Nat.le_refl _); omega))
          have o109 := (own_ch (own_kp (own_kp (own_ch (own_kp o57 k80) k83 (fun g hg hlt hk => by have h1 := (own_lt o57 g hg).2; have h2 := Nat.le_trans (Nat.le_refl _) p78; omega)) k88) k92) k103 (fun g hg hlt hk => by have h1 := (own_lt o57 g hg).1; have h2 := Nat.lt_of_lt_of_le p39 (Nat.le_refl _); omega))
          have o110 := (own_ch (own_kp (own_kp (own_ch (own_kp o62 k80) k83 (fun g hg hlt hk => by have h1 := (own_lt o62 g hg).2; have h2 := Nat.le_trans (Nat.le_refl _) p78; omega)) k88) k92) k103 (fun g hg hlt hk => by have h1 := (own_lt o62 g hg).1; have h2 := Nat.lt_of_lt_of_le p39 (Nat.le_refl _); omega))
          have o111 := (own_ch (own_kp (own_kp (own_ch (own_kp o67 k80) k83 (fun g hg hlt hk => by have h1 := (own_lt o67 g hg).2; have h2 := Nat.le_trans (Nat.le_refl _) p78; omega)) k88) k92) k103 (fun g hg hlt hk => by have h1 := (own_lt o67 g hg).1; have h2 := Nat.lt_of_lt_of_le p39 (Nat.le_refl _); omega))
          have o112 := (own_ch (own_kp (own_kp (own_ch (own_kp o72 k80) k83 (fun g hg hlt hk => by have h1 := (own_lt o72 g hg).2; have h2 := Nat.le_trans (Nat.le_refl _) p78; omega)) k88) k92) k103 (fun g hg hlt hk => by have h1 := (own_lt o72 g hg).1; have h2 := Nat.lt_of_lt_of_le p39 (Nat.le_refl _); omega))
          refine ret_1 (.inl rfl) (.agg #[(.int .i64 ((F_spec_l14Copy x_c).Role)), (.slice a45 ((F_spec_l14Copy x_c).Sn).length c46), (.int .i64 (((F_spec_l14Copy x_c).Cur).N)), (.slice a50 (((F_spec_l14Copy x_c).Cur).Key).length c51), (.int .i64 (((F_spec_l14Copy x_c).Cur).Seq)), (.int .i64 ((((F_spec_l14Copy x_c).Cur).Win).Top)), (.slice a55 ((((F_spec_l14Copy x_c).Cur).Win).Bits).length c56), (.int .i64 (((F_spec_l14Copy x_c).Old).N)), (.slice a60 (((F_spec_l14Copy x_c).Old).Key).length c61), (.int .i64 (((F_spec_l14Copy x_c).Old).Seq)), (.int .i64 ((((F_spec_l14Copy x_c).Old).Win).Top)), (.slice a65 ((((F_spec_l14Copy x_c).Old).Win).Bits).length c66), (.bool ((F_spec_l14Copy x_c).HasOld)), (.int .i64 ((F_spec_l14Copy x_c).Until)), (.slice a70 ((F_spec_l14Copy x_c).Next).length c71)]) rfl (rv_c [(.int .i64 ((F_spec_l14Copy x_c).Role)), (.slice a45 ((F_spec_l14Copy x_c).Sn).length c46), (.int .i64 (((F_spec_l14Copy x_c).Cur).N)), (.slice a50 (((F_spec_l14Copy x_c).Cur).Key).length c51), (.int .i64 (((F_spec_l14Copy x_c).Cur).Seq)), (.int .i64 ((((F_spec_l14Copy x_c).Cur).Win).Top)), (.slice a55 ((((F_spec_l14Copy x_c).Cur).Win).Bits).length c56), (.int .i64 (((F_spec_l14Copy x_c).Old).N)), (.slice a60 (((F_spec_l14Copy x_c).Old).Key).length c61), (.int .i64 (((F_spec_l14Copy x_c).Old).Seq)), (.int .i64 ((((F_spec_l14Copy x_c).Old).Win).Top)), (.slice a65 ((((F_spec_l14Copy x_c).Old).Win).Bits).length c66), (.bool ((F_spec_l14Copy x_c).HasOld)), (.int .i64 ((F_spec_l14Copy x_c).Until)), (.slice a70 ((F_spec_l14Copy x_c).Next).length c71)] rfl b104 isAgg_29 sizeOf_29) ?_
          refine ⟨m106.keep0, ?_⟩
          have hF113 : F_spec_ChanTick x_c x_now = (F_spec_l14Copy x_c) := by simp only [F_spec_ChanTick, h90, h94, h97, h99, cond_true, cond_false]
          rw [hF113]
          exact ⟨_, _, _, _, _, _, _, _, _, _, _, _, rfl, (own_lo o107 (Nat.le_trans k34.size k40.size)), s48, (own_lo o108 (Nat.le_trans k34.size k40.size)), s53, (own_lo o109 (Nat.le_trans k34.size k40.size)), s58, (own_lo o110 (Nat.le_trans k34.size k40.size)), s63, (own_lo o111 (Nat.le_trans k34.size k40.size)), s68, (own_lo o112 (Nat.le_trans k34.size k40.size)), s73, ⟨⟨(ap75.1.1), ⟨(ap75.1.2.1), ⟨(ap75.1.2.2.1), ⟨(ap75.1.2.2.2.1), ⟨(ap75.1.2.2.2.2.1), trivial⟩⟩⟩⟩⟩, ⟨⟨(ap75.2.1.1), ⟨(ap75.2.1.2.1), ⟨(ap75.2.1.2.2.1), ⟨(ap75.2.1.2.2.2.1), trivial⟩⟩⟩⟩, ⟨⟨(ap75.2.2.1.1), ⟨(ap75.2.2.1.2.1), ⟨(ap75.2.2.1.2.2.1), trivial⟩⟩⟩, ⟨⟨(ap75.2.2.2.1.1), ⟨(ap75.2.2.2.1.2.1), trivial⟩⟩, ⟨⟨(ap75.2.2.2.2.1.1), trivial⟩, ⟨trivial, trivial⟩⟩⟩⟩⟩⟩⟩
        · have q114 := of_decide_eq_false h99
          refine wl_mv (.int .i64 x_now) (want_some rfl rfl rfl (congrArg (fun b => Value.bool (!b)) h99)) rfl rfl (.inl rfl) rfl ?_
          refine wl_pure (.pointer (some ⟨g31, 13, none⟩)) (want_some rfl rfl rfl (congrArg (fun b => Value.bool (!b)) h99)) rfl rfl (by kernel_rfl) ?_
          refine wl_load1 (.int .i64 x_c.Until) (want_some rfl rfl rfl (congrArg (fun b => Value.bool (!b)) h99)) rfl rfl rfl rfl isAgg_3 b96 rfl ?_
          refine wl_pure (.bool (decide (x_c.Until < x_now))) (want_some rfl rfl rfl (congrArg (fun b => Value.bool (!b)) h99)) rfl rfl (by kernel_rfl) ?_
          refine wl_pick_t (.bool (decide (x_c.Until < x_now))) (want_none rfl) rfl rfl rfl (congrArg (fun b => Value.bool (!b)) h99) rfl ?_
          refine wl_nil ?_
          refine wq_then ?_
          rcases Bool.eq_false_or_eq_true (decide (x_c.Until < x_now)) with h115 | h115
          · have q116 := of_decide_eq_true h115
            refine wc_true (congrArg Value.bool h115) ?_
            refine wc_seq ?_
            refine wc_region ?_
            refine wl_pure (.agg #[(.int .i64 0), (.slice none 0 0), (.int .i64 0), (.int .i64 0), (.slice none 0 0)]) (want_none rfl) rfl rfl (by kernel_rfl) ?_
            refine wl_pure (.pointer (some ⟨g77, 7, none⟩)) (want_none rfl) rfl rfl (by kernel_rfl) ?_
            have b117 := ((b84.kp k88).kp k92)
            refine wl_store (.agg #[(.int .i64 0), (.slice none 0 0), (.int .i64 0), (.int .i64 0), (.slice none 0 0)]) [(.int .i64 0), (.slice none 0 0), (.int .i64 0), (.int .i64 0), (.slice none 0 0)] [(.int .i64 ((F_spec_l14Copy x_c).Role)), (.slice a45 ((F_spec_l14Copy x_c).Sn).length c46), (.int .i64 (((F_spec_l14Copy x_c).Cur).N)), (.slice a50 (((F_spec_l14Copy x_c).Cur).Key).length c51), (.int .i64 (((F_spec_l14Copy x_c).Cur).Seq)), (.int .i64 ((((F_spec_l14Copy x_c).Cur).Win).Top)), (.slice a55 ((((F_spec_l14Copy x_c).Cur).Win).Bits).length c56), (.int .i64 0), (.slice none 0 0), (.int .i64 0), (.int .i64 0), (.slice none 0 0), (.bool ((F_spec_l14Copy x_c).HasOld)), (.int .i64 ((F_spec_l14Copy x_c).Until)), (.slice a70 ((F_spec_l14Copy x_c).Next).length c71)] (want_none rfl) rfl rfl rfl rfl rfl (one_cons rfl (one_cons rfl (one_cons rfl (one_cons rfl (one_cons rfl one_nil))))) sizeOf_27 b117 rfl rfl ?_
            intro w8 k118 b119 z120
            have m121 := m93.ext k118 (fun k hk => by subst hk; exact Nat.le_trans (Nat.le_trans (Nat.le_trans k34.size k40.size) k44.size) p78)
            refine wl_nil ?_
            refine wq_then ?_
            refine wc_seq ?_
            refine wc_region ?_
            refine wl_pure (.pointer (some ⟨g77, 12, none⟩)) (want_none rfl) rfl rfl (by kernel_rfl) ?_
            refine wl_store (.bool false) [(.bool false)] [(.int .i64 ((F_spec_l14Copy x_c).Role)), (.slice a45 ((F_spec_l14Copy x_c).Sn).length c46), (.int .i64 (((F_spec_l14Copy x_c).Cur).N)), (.slice a50 (((F_spec_l14Copy x_c).Cur).Key).length c51), (.int .i64 (((F_spec_l14Copy x_c).Cur).Seq)), (.int .i64 ((((F_spec_l14Copy x_c).Cur).Win).Top)), (.slice a55 ((((F_spec_l14Copy x_c).Cur).Win).Bits).length c56), (.int .i64 0), (.slice none 0 0), (.int .i64 0), (.int .i64 0), (.slice none 0 0), (.bool false), (.int .i64 ((F_spec_l14Copy x_c).Until)), (.slice a70 ((F_spec_l14Copy x_c).Next).length c71)] (want_none rfl) rfl rfl rfl rfl rfl (one_cons rfl one_nil) sizeOf_4 b119 rfl rfl ?_
            intro w9 k122 b123 z124
            have m125 := m121.ext k122 (fun k hk => by subst hk; exact Nat.le_trans (Nat.le_trans (Nat.le_trans k34.size k40.size) k44.size) p78)
            refine wl_nil ?_
            refine wq_then ?_
            refine wc_region ?_
            refine wl_pure (.pointer (some ⟨g77, 13, none⟩)) (want_none rfl) rfl rfl (by kernel_rfl) ?_
            refine wl_store (.int .i64 0) [(.int .i64 0)] [(.int .i64 ((F_spec_l14Copy x_c).Role)), (.slice a45 ((F_spec_l14Copy x_c).Sn).length c46), (.int .i64 (((F_spec_l14Copy x_c).Cur).N)), (.slice a50 (((F_spec_l14Copy x_c).Cur).Key).length c51), (.int .i64 (((F_spec_l14Copy x_c).Cur).Seq)), (.int .i64 ((((F_spec_l14Copy x_c).Cur).Win).Top)), (.slice a55 ((((F_spec_l14Copy x_c).Cur).Win).Bits).length c56), (.int .i64 0), (.slice none 0 0), (.int .i64 0), (.int .i64 0), (.slice none 0 0), (.bool false), (.int .i64 0), (.slice a70 ((F_spec_l14Copy x_c).Next).length c71)] (want_none rfl) rfl rfl rfl rfl rfl (one_cons rfl one_nil) sizeOf_3 b123 rfl rfl ?_
            intro w10 k126 b127 z128
            have m129 := m125.ext k126 (fun k hk => by subst hk; exact Nat.le_trans (Nat.le_trans (Nat.le_trans k34.size k40.size) k44.size) p78)
            refine wl_nil ?_
            refine wq_then ?_
            refine wc_seq ?_
            refine wc_region ?_
            refine wl_loadN [(.int .i64 ((F_spec_l14Copy x_c).Role)), (.slice a45 ((F_spec_l14Copy x_c).Sn).length c46), (.int .i64 (((F_spec_l14Copy x_c).Cur).N)), (.slice a50 (((F_spec_l14Copy x_c).Cur).Key).length c51), (.int .i64 (((F_spec_l14Copy x_c).Cur).Seq)), (.int .i64 ((((F_spec_l14Copy x_c).Cur).Win).Top)), (.slice a55 ((((F_spec_l14Copy x_c).Cur).Win).Bits).length c56), (.int .i64 0), (.slice none 0 0), (.int .i64 0), (.int .i64 0), (.slice none 0 0), (.bool false), (.int .i64 0), (.slice a70 ((F_spec_l14Copy x_c).Next).length c71)] (want_none rfl) rfl rfl rfl rfl isAgg_29 sizeOf_29 b127 rfl ?_
            have b130 := ((((((((b41.kp k44).kp k80).ch k83 (Nat.ne_of_lt (Nat.lt_of_lt_of_le p39 (Nat.le_trans k44.size p78)))).kp k88).kp k92).ch k118 (Nat.ne_of_lt (Nat.lt_of_lt_of_le p39 (Nat.le_trans k44.size p78)))).ch k122 (Nat.ne_of_lt (Nat.lt_of_lt_of_le p39 (Nat.le_trans k44.size p78)))).ch k126 (Nat.ne_of_lt (Nat.lt_of_lt_of_le p39 (Nat.le_trans k44.size p78))))
            refine wl_store (.agg #[(.int .i64 ((F_spec_l14Copy x_c).Role)), (.slice a45 ((F_spec_l14Copy x_c).Sn).length c46), (.int .i64 (((F_spec_l14Copy x_c).Cur).N)), (.slice a50 (((F_spec_l14Copy x_c).Cur).Key).length c51), (.int .i64 (((F_spec_l14Copy x_c).Cur).Seq)), (.int .i64 ((((F_spec_l14Copy x_c).Cur).Win).Top)), (.slice a55 ((((F_spec_l14Copy x_c).Cur).Win).Bits).length c56), (.int .i64 0), (.slice none 0 0), (.int .i64 0), (.int .i64 0), (.slice none 0 0), (.bool false), (.int .i64 0), (.slice a70 ((F_spec_l14Copy x_c).Next).length c71)]) [(.int .i64 ((F_spec_l14Copy x_c).Role)), (.slice a45 ((F_spec_l14Copy x_c).Sn).length c46), (.int .i64 (((F_spec_l14Copy x_c).Cur).N)), (.slice a50 (((F_spec_l14Copy x_c).Cur).Key).length c51), (.int .i64 (((F_spec_l14Copy x_c).Cur).Seq)), (.int .i64 ((((F_spec_l14Copy x_c).Cur).Win).Top)), (.slice a55 ((((F_spec_l14Copy x_c).Cur).Win).Bits).length c56), (.int .i64 0), (.slice none 0 0), (.int .i64 0), (.int .i64 0), (.slice none 0 0), (.bool false), (.int .i64 0), (.slice a70 ((F_spec_l14Copy x_c).Next).length c71)] [(.int .i64 ((F_spec_l14Copy x_c).Role)), (.slice a45 ((F_spec_l14Copy x_c).Sn).length c46), (.int .i64 (((F_spec_l14Copy x_c).Cur).N)), (.slice a50 (((F_spec_l14Copy x_c).Cur).Key).length c51), (.int .i64 (((F_spec_l14Copy x_c).Cur).Seq)), (.int .i64 ((((F_spec_l14Copy x_c).Cur).Win).Top)), (.slice a55 ((((F_spec_l14Copy x_c).Cur).Win).Bits).length c56), (.int .i64 0), (.slice none 0 0), (.int .i64 0), (.int .i64 0), (.slice none 0 0), (.bool false), (.int .i64 0), (.slice a70 ((F_spec_l14Copy x_c).Next).length c71)] (want_none rfl) rfl rfl rfl rfl rfl (one_cons rfl (one_cons rfl (one_cons rfl (one_cons rfl (one_cons rfl (one_cons rfl (one_cons rfl (one_cons rfl (one_cons rfl (one_cons rfl (one_cons rfl (one_cons rfl (one_cons rfl (one_cons rfl (one_cons rfl one_nil))))))))))))))) sizeOf_29 b130 rfl rfl ?_
            intro w11 k131 b132 z133
            have m134 := m129.ext k131 (fun k hk => by subst hk; exact Nat.le_trans k34.size p38)
            refine wl_nil ?_
            refine wq_then ?_
            refine wc_ret ?_
            have o135 := (own_ch (own_ch (own_ch (own_ch (own_kp (own_kp (own_ch (own_kp o47 k80) k83 (fun g hg hlt hk => by have h1 := (own_lt o47 g hg).2; have h2 := Nat.le_trans (Nat.le_refl _) p78; omega)) k88) k92) k118 (fun g hg hlt hk => by have h1 := (own_lt o47 g hg).2; have h2 := Nat.le_trans (Nat.le_refl _) p78; omega)) k122 (fun g hg hlt hk => by have h1 := (own_lt o47 g hg).2; have h2 := Nat.le_trans (Nat.le_refl _) p78; omega)) k126 (fun g hg hlt hk => by have h1 := (own_lt o47 g hg).2; have h2 := Nat.le_trans (Nat.le_refl _) p78; omega)) k131 (fun g hg hlt hk => by have h1 := (own_lt o47 g hg).1; have h2 := Nat.lt_of_lt_of_le p39 (Nat.le_refl _); omega))
            have o136 := (own_ch (own_ch (own_ch (own_ch (own_kp (own_kp (own_ch (own_kp o52 k80) k83 (fun g hg hlt hk => by have h1 := (own_lt o52 g hg).2; have h2 := Nat.le_trans (Nat.le_refl _) p78; omega)) k88) k92) k118 (fun g hg hlt hk => by have h1 := (own_lt o52 g hg).2; have h2 := Nat.le_trans (Nat.le_refl _) p78; omega)) k122 (fun g hg hlt hk => by have h1 := (own_lt o52 g hg).2; have h2 := Nat.le_trans (Nat.le_refl _) p78; omega)) k126 (fun g hg hlt hk => by have h1 := (own_lt o52 g hg).2; have h2 := Nat.le_trans (Nat.le_refl _) p78; omega)) k131 (fun g hg hlt hk => by have h1 := (own_lt o52 g hg).1; have h2 := Nat.lt_of_lt_of_le p39 (Nat.le_refl _); omega))
            have o137 := (own_ch (own_ch (own_ch (own_ch (own_kp (own_kp (own_ch (own_kp o57 k80) k83 (fun g hg hlt hk => by have h1 := (own_lt o57 g hg).2; have h2 := Nat.le_trans (Nat.le_refl _) p78; omega)) k88) k92) k118 (fun g hg hlt hk => by have h1 := (own_lt o57 g hg).2; have h2 := Nat.le_trans (Nat.le_refl _) p78; omega)) k122 (fun g hg hlt hk => by have h1 := (own_lt o57 g hg).2; have h2 := Nat.le_trans (Nat.le_refl _) p78; omega)) k126 (fun g hg hlt hk => by have h1 := (own_lt o57 g hg).2; have h2 := Nat.le_trans (Nat.le_refl _) p78; omega)) k131 (fun g hg hlt hk => by have h1 := (own_lt o57 g hg).1; have h2 := Nat.lt_of_lt_of_le p39 (Nat.le_refl _); omega))
            have o138 := (own_ch (own_ch (own_ch (own_ch (own_kp (own_kp (own_ch (own_kp o72 k80) k83 (fun g hg hlt hk => by have h1 := (own_lt o72 g hg).2; have h2 := Nat.le_trans (Nat.le_refl _) p78; omega)) k88) k92) k118 (fun g hg hlt hk => by have h1 := (own_lt o72 g hg).2; have h2 := Nat.le_trans (Nat.le_refl _) p78; omega)) k122 (fun g hg hlt hk => by have h1 := (own_lt o72 g hg).2; have h2 := Nat.le_trans (Nat.le_refl _) p78; omega)) k126 (fun g hg hlt hk => by have h1 := (own_lt o72 g hg).2; have h2 := Nat.le_trans (Nat.le_refl _) p78; omega)) k131 (fun g hg hlt hk => by have h1 := (own_lt o72 g hg).1; have h2 := Nat.lt_of_lt_of_le p39 (Nat.le_refl _); omega))
            refine ret_1 (.inl rfl) (.agg #[(.int .i64 ((F_spec_l14Copy x_c).Role)), (.slice a45 ((F_spec_l14Copy x_c).Sn).length c46), (.int .i64 (((F_spec_l14Copy x_c).Cur).N)), (.slice a50 (((F_spec_l14Copy x_c).Cur).Key).length c51), (.int .i64 (((F_spec_l14Copy x_c).Cur).Seq)), (.int .i64 ((((F_spec_l14Copy x_c).Cur).Win).Top)), (.slice a55 ((((F_spec_l14Copy x_c).Cur).Win).Bits).length c56), (.int .i64 0), (.slice none 0 0), (.int .i64 0), (.int .i64 0), (.slice none 0 0), (.bool false), (.int .i64 0), (.slice a70 ((F_spec_l14Copy x_c).Next).length c71)]) rfl (rv_c [(.int .i64 ((F_spec_l14Copy x_c).Role)), (.slice a45 ((F_spec_l14Copy x_c).Sn).length c46), (.int .i64 (((F_spec_l14Copy x_c).Cur).N)), (.slice a50 (((F_spec_l14Copy x_c).Cur).Key).length c51), (.int .i64 (((F_spec_l14Copy x_c).Cur).Seq)), (.int .i64 ((((F_spec_l14Copy x_c).Cur).Win).Top)), (.slice a55 ((((F_spec_l14Copy x_c).Cur).Win).Bits).length c56), (.int .i64 0), (.slice none 0 0), (.int .i64 0), (.int .i64 0), (.slice none 0 0), (.bool false), (.int .i64 0), (.slice a70 ((F_spec_l14Copy x_c).Next).length c71)] rfl b132 isAgg_29 sizeOf_29) ?_
            refine ⟨m134.keep0, ?_⟩
            have hF139 : F_spec_ChanTick x_c x_now = { Role := (F_spec_l14Copy x_c).Role, Sn := (F_spec_l14Copy x_c).Sn, Cur := ((F_spec_l14Copy x_c).Cur), Old := { N := 0, Key := [], Seq := 0, Win := { Top := 0, Bits := [] : PWin } : PEp }, HasOld := false, Until := 0, Next := (F_spec_l14Copy x_c).Next : PChan } := by simp only [F_spec_ChanTick, h90, h94, h97, h99, h115, cond_true, cond_false]
            rw [hF139]
            exact ⟨_, _, _, _, _, _, _, _, _, _, _, _, rfl, (own_lo o135 (Nat.le_trans k34.size k40.size)), s48, (own_lo o136 (Nat.le_trans k34.size k40.size)), s53, (own_lo o137 (Nat.le_trans k34.size k40.size)), s58, (own_nil _ _ _ _), (by simp), (own_nil _ _ _ _), (by simp), (own_lo o138 (Nat.le_trans k34.size k40.size)), s73, ⟨⟨(ap75.1.1), ⟨(ap75.1.2.1), ⟨(Ap.nr _), ⟨(Ap.nr _), ⟨(ap75.1.2.2.2.2.1), trivial⟩⟩⟩⟩⟩, ⟨⟨(ap75.2.1.1), ⟨(Ap.nr _), ⟨(Ap.nr _), ⟨(ap75.2.1.2.2.2.1), trivial⟩⟩⟩⟩, ⟨⟨(Ap.nr _), ⟨(Ap.nr _), ⟨(ap75.2.2.1.2.2.1), trivial⟩⟩⟩, ⟨⟨(Ap.nl _), ⟨(Ap.nl _), trivial⟩⟩, ⟨⟨(Ap.nl _), trivial⟩, ⟨trivial, trivial⟩⟩⟩⟩⟩⟩⟩
          · have q140 := of_decide_eq_false h115
            refine wc_false (congrArg Value.bool h115) ?_
            refine wc_skip ?_
            refine wq_then ?_
            refine wc_seq ?_
            refine wc_region ?_
            have b141 := ((b84.kp k88).kp k92)
            refine wl_loadN [(.int .i64 ((F_spec_l14Copy x_c).Role)), (.slice a45 ((F_spec_l14Copy x_c).Sn).length c46), (.int .i64 (((F_spec_l14Copy x_c).Cur).N)), (.slice a50 (((F_spec_l14Copy x_c).Cur).Key).length c51), (.int .i64 (((F_spec_l14Copy x_c).Cur).Seq)), (.int .i64 ((((F_spec_l14Copy x_c).Cur).Win).Top)), (.slice a55 ((((F_spec_l14Copy x_c).Cur).Win).Bits).length c56), (.int .i64 (((F_spec_l14Copy x_c).Old).N)), (.slice a60 (((F_spec_l14Copy x_c).Old).Key).length c61), (.int .i64 (((F_spec_l14Copy x_c).Old).Seq)), (.int .i64 ((((F_spec_l14Copy x_c).Old).Win).Top)), (.slice a65 ((((F_spec_l14Copy x_c).Old).Win).Bits).length c66), (.bool ((F_spec_l14Copy x_c).HasOld)), (.int .i64 ((F_spec_l14Copy x_c).Until)), (.slice a70 ((F_spec_l14Copy x_c).Next).length c71)] (want_none rfl) rfl rfl rfl rfl isAgg_29 sizeOf_29 b141 rfl ?_
            have b142 := (((((b41.kp k44).kp k80).ch k83 (Nat.ne_of_lt (Nat.lt_of_lt_of_le p39 (Nat.le_trans k44.size p78)))).kp k88).kp k92)
            refine wl_store (.agg #[(.int .i64 ((F_spec_l14Copy x_c).Role)), (.slice a45 ((F_spec_l14Copy x_c).Sn).length c46), (.int .i64 (((F_spec_l14Copy x_c).Cur).N)), (.slice a50 (((F_spec_l14Copy x_c).Cur).Key).length c51), (.int .i64 (((F_spec_l14Copy x_c).Cur).Seq)), (.int .i64 ((((F_spec_l14Copy x_c).Cur).Win).Top)), (.slice a55 ((((F_spec_l14Copy x_c).Cur).Win).Bits).length c56), (.int .i64 (((F_spec_l14Copy x_c).Old).N)), (.slice a60 (((F_spec_l14Copy x_c).Old).Key).length c61), (.int .i64 (((F_spec_l14Copy x_c).Old).Seq)), (.int .i64 ((((F_spec_l14Copy x_c).Old).Win).Top)), (.slice a65 ((((F_spec_l14Copy x_c).Old).Win).Bits).length c66), (.bool ((F_spec_l14Copy x_c).HasOld)), (.int .i64 ((F_spec_l14Copy x_c).Until)), (.slice a70 ((F_spec_l14Copy x_c).Next).length c71)]) [(.int .i64 ((F_spec_l14Copy x_c).Role)), (.slice a45 ((F_spec_l14Copy x_c).Sn).length c46), (.int .i64 (((F_spec_l14Copy x_c).Cur).N)), (.slice a50 (((F_spec_l14Copy x_c).Cur).Key).length c51), (.int .i64 (((F_spec_l14Copy x_c).Cur).Seq)), (.int .i64 ((((F_spec_l14Copy x_c).Cur).Win).Top)), (.slice a55 ((((F_spec_l14Copy x_c).Cur).Win).Bits).length c56), (.int .i64 (((F_spec_l14Copy x_c).Old).N)), (.slice a60 (((F_spec_l14Copy x_c).Old).Key).length c61), (.int .i64 (((F_spec_l14Copy x_c).Old).Seq)), (.int .i64 ((((F_spec_l14Copy x_c).Old).Win).Top)), (.slice a65 ((((F_spec_l14Copy x_c).Old).Win).Bits).length c66), (.bool ((F_spec_l14Copy x_c).HasOld)), (.int .i64 ((F_spec_l14Copy x_c).Until)), (.slice a70 ((F_spec_l14Copy x_c).Next).length c71)] [(.int .i64 ((F_spec_l14Copy x_c).Role)), (.slice a45 ((F_spec_l14Copy x_c).Sn).length c46), (.int .i64 (((F_spec_l14Copy x_c).Cur).N)), (.slice a50 (((F_spec_l14Copy x_c).Cur).Key).length c51), (.int .i64 (((F_spec_l14Copy x_c).Cur).Seq)), (.int .i64 ((((F_spec_l14Copy x_c).Cur).Win).Top)), (.slice a55 ((((F_spec_l14Copy x_c).Cur).Win).Bits).length c56), (.int .i64 (((F_spec_l14Copy x_c).Old).N)), (.slice a60 (((F_spec_l14Copy x_c).Old).Key).length c61), (.int .i64 (((F_spec_l14Copy x_c).Old).Seq)), (.int .i64 ((((F_spec_l14Copy x_c).Old).Win).Top)), (.slice a65 ((((F_spec_l14Copy x_c).Old).Win).Bits).length c66), (.bool ((F_spec_l14Copy x_c).HasOld)), (.int .i64 ((F_spec_l14Copy x_c).Until)), (.slice a70 ((F_spec_l14Copy x_c).Next).length c71)] (want_none rfl) rfl rfl rfl rfl rfl (one_cons rfl (one_cons rfl (one_cons rfl (one_cons rfl (one_cons rfl (one_cons rfl (one_cons rfl (one_cons rfl (one_cons rfl (one_cons rfl (one_cons rfl (one_cons rfl (one_cons rfl (one_cons rfl (one_cons rfl one_nil))))))))))))))) sizeOf_29 b142 rfl rfl ?_
            intro w8 k143 b144 z145
            have m146 := m93.ext k143 (fun k hk => by subst hk; exact Nat.le_trans k34.size p38)
            refine wl_nil ?_
            refine wq_then ?_
            refine wc_ret ?_
            have o147 := (own_ch (own_kp (own_kp (own_ch (own_kp o47 k80) k83 (fun g hg hlt hk => by have h1 := (own_lt o47 g hg).2; have h2 := Nat.le_trans (Nat.le_refl _) p78; omega)) k88) k92) k143 (fun g hg hlt hk => by have h1 := (own_lt o47 g hg).1; have h2 := Nat.lt_of_lt_of_le p39 (Nat.le_refl _); omega))
            have o148 := (own_ch (own_kp (own_kp (own_ch (own_kp o52 k80) k83 (fun g hg hlt hk => by have h1 := (own_lt o52 g hg).2; have h2 := Nat.le_trans (Nat.le_refl _) p78; omega)) k88) k92) k143 (fun g hg hlt hk => by have h1 := (own_lt o52 g hg).1; have h2 := Nat.lt_of_lt_of_le p39 (Nat.le_refl _); omega))
            have o149 := (own_ch (own_kp (own_kp (own_ch (own_kp o57 k80) k83 (fun g hg hlt hk => by have h1 := (own_lt o57 g hg).2; have h2 := Nat.le_trans (Nat.le_refl _) p78; omega)) k88) k92) k143 (fun g hg hlt hk => by have h1 := (own_lt o57 g hg).1; have h2 := Nat.lt_of_lt_of_le p39 (Nat.le_refl _); omega))
            have o150 := (own_ch (own_kp (own_kp (own_ch (own_kp o62 k80) k83 (fun g hg hlt hk => by have h1 := (own_lt o62 g hg).2; have h2 := Nat.le_trans (Nat.le_refl _) p78; omega)) k88) k92) k143 (fun g hg hlt hk => by have h1 := (own_lt o62 g hg).1; have h2 := Nat.lt_of_lt_of_le p39 (Nat.le_refl _); omega))
            have o151 := (own_ch (own_kp (own_kp (own_ch (own_kp o67 k80) k83 (fun g hg hlt hk => by have h1 := (own_lt o67 g hg).2; have h2 := Nat.le_trans (Nat.le_refl _) p78; omega)) k88) k92) k143 (fun g hg hlt hk => by have h1 := (own_lt o67 g hg).1; have h2 := Nat.lt_of_lt_of_le p39 (Nat.le_refl _); omega))
            have o152 := (own_ch (own_kp (own_kp (own_ch (own_kp o72 k80) k83 (fun g hg hlt hk => by have h1 := (own_lt o72 g hg).2; have h2 := Nat.le_trans (Nat.le_refl _) p78; omega)) k88) k92) k143 (fun g hg hlt hk => by have h1 := (own_lt o72 g hg).1; have h2 := Nat.lt_of_lt_of_le p39 (Nat.le_refl _); omega))
            refine ret_1 (.inl rfl) (.agg #[(.int .i64 ((F_spec_l14Copy x_c).Role)), (.slice a45 ((F_spec_l14Copy x_c).Sn).length c46), (.int .i64 (((F_spec_l14Copy x_c).Cur).N)), (.slice a50 (((F_spec_l14Copy x_c).Cur).Key).length c51), (.int .i64 (((F_spec_l14Copy x_c).Cur).Seq)), (.int .i64 ((((F_spec_l14Copy x_c).Cur).Win).Top)), (.slice a55 ((((F_spec_l14Copy x_c).Cur).Win).Bits).length c56), (.int .i64 (((F_spec_l14Copy x_c).Old).N)), (.slice a60 (((F_spec_l14Copy x_c).Old).Key).length c61), (.int .i64 (((F_spec_l14Copy x_c).Old).Seq)), (.int .i64 ((((F_spec_l14Copy x_c).Old).Win).Top)), (.slice a65 ((((F_spec_l14Copy x_c).Old).Win).Bits).length c66), (.bool ((F_spec_l14Copy x_c).HasOld)), (.int .i64 ((F_spec_l14Copy x_c).Until)), (.slice a70 ((F_spec_l14Copy x_c).Next).length c71)]) rfl (rv_c [(.int .i64 ((F_spec_l14Copy x_c).Role)), (.slice a45 ((F_spec_l14Copy x_c).Sn).length c46), (.int .i64 (((F_spec_l14Copy x_c).Cur).N)), (.slice a50 (((F_spec_l14Copy x_c).Cur).Key).length c51), (.int .i64 (((F_spec_l14Copy x_c).Cur).Seq)), (.int .i64 ((((F_spec_l14Copy x_c).Cur).Win).Top)), (.slice a55 ((((F_spec_l14Copy x_c).Cur).Win).Bits).length c56), (.int .i64 (((F_spec_l14Copy x_c).Old).N)), (.slice a60 (((F_spec_l14Copy x_c).Old).Key).length c61), (.int .i64 (((F_spec_l14Copy x_c).Old).Seq)), (.int .i64 ((((F_spec_l14Copy x_c).Old).Win).Top)), (.slice a65 ((((F_spec_l14Copy x_c).Old).Win).Bits).length c66), (.bool ((F_spec_l14Copy x_c).HasOld)), (.int .i64 ((F_spec_l14Copy x_c).Until)), (.slice a70 ((F_spec_l14Copy x_c).Next).length c71)] rfl b144 isAgg_29 sizeOf_29) ?_
            refine ⟨m146.keep0, ?_⟩
            have hF153 : F_spec_ChanTick x_c x_now = (F_spec_l14Copy x_c) := by simp only [F_spec_ChanTick, h90, h94, h97, h99, h115, cond_true, cond_false]
            rw [hF153]
            exact ⟨_, _, _, _, _, _, _, _, _, _, _, _, rfl, (own_lo o147 (Nat.le_trans k34.size k40.size)), s48, (own_lo o148 (Nat.le_trans k34.size k40.size)), s53, (own_lo o149 (Nat.le_trans k34.size k40.size)), s58, (own_lo o150 (Nat.le_trans k34.size k40.size)), s63, (own_lo o151 (Nat.le_trans k34.size k40.size)), s68, (own_lo o152 (Nat.le_trans k34.size k40.size)), s73, ⟨⟨(ap75.1.1), ⟨(ap75.1.2.1), ⟨(ap75.1.2.2.1), ⟨(ap75.1.2.2.2.1), ⟨(ap75.1.2.2.2.2.1), trivial⟩⟩⟩⟩⟩, ⟨⟨(ap75.2.1.1), ⟨(ap75.2.1.2.1), ⟨(ap75.2.1.2.2.1), ⟨(ap75.2.1.2.2.2.1), trivial⟩⟩⟩⟩, ⟨⟨(ap75.2.2.1.1), ⟨(ap75.2.2.1.2.1), ⟨(ap75.2.2.1.2.2.1), trivial⟩⟩⟩, ⟨⟨(ap75.2.2.2.1.1), ⟨(ap75.2.2.2.1.2.1), trivial⟩⟩, ⟨⟨(ap75.2.2.2.2.1.1), trivial⟩, ⟨trivial, trivial⟩⟩⟩⟩⟩⟩⟩
      · skip
        refine wl_skip rfl rfl rfl (congrArg Value.bool h97) rfl rfl rfl ?_
        refine wl_skip rfl rfl rfl (congrArg Value.bool h97) rfl rfl rfl ?_
        refine wl_skip rfl rfl rfl (congrArg Value.bool h97) rfl rfl rfl ?_
        refine wl_pick_f (.bool false) (want_none rfl) rfl rfl rfl (congrArg Value.bool h97) rfl ?_
        refine wl_mv (.bool false) (want_none rfl) rfl rfl (.inl rfl) rfl ?_
        refine wl_skip rfl rfl rfl rfl rfl rfl rfl ?_
        refine wl_skip rfl rfl rfl rfl rfl rfl rfl ?_
        refine wl_skip rfl rfl rfl rfl rfl rfl rfl ?_
        refine wl_skip rfl rfl rfl rfl rfl rfl rfl ?_
        refine wl_pick_f (.bool false) (want_none rfl) rfl rfl rfl rfl rfl ?_
        refine wl_nil ?_
        refine wq_then ?_
        refine wc_false rfl ?_
        refine wc_skip ?_
        refine wq_then ?_
        refine wc_seq ?_
        refine wc_region ?_
        have b155 := ((b84.kp k88).kp k92)
        refine wl_loadN [(.int .i64 ((F_spec_l14Copy x_c).Role)), (.slice a45 ((F_spec_l14Copy x_c).Sn).length c46), (.int .i64 (((F_spec_l14Copy x_c).Cur).N)), (.slice a50 (((F_spec_l14Copy x_c).Cur).Key).length c51), (.int .i64 (((F_spec_l14Copy x_c).Cur).Seq)), (.int .i64 ((((F_spec_l14Copy x_c).Cur).Win).Top)), (.slice a55 ((((F_spec_l14Copy x_c).Cur).Win).Bits).length c56), (.int .i64 (((F_spec_l14Copy x_c).Old).N)), (.slice a60 (((F_spec_l14Copy x_c).Old).Key).length c61), (.int .i64 (((F_spec_l14Copy x_c).Old).Seq)), (.int .i64 ((((F_spec_l14Copy x_c).Old).Win).Top)), (.slice a65 ((((F_spec_l14Copy x_c).Old).Win).Bits).length c66), (.bool ((F_spec_l14Copy x_c).HasOld)), (.int .i64 ((F_spec_l14Copy x_c).Until)), (.slice a70 ((F_spec_l14Copy x_c).Next).length c71)] (want_none rfl) rfl rfl rfl rfl isAgg_29 sizeOf_29 b155 rfl ?_
        have b156 := (((((b41.kp k44).kp k80).ch k83 (Nat.ne_of_lt (Nat.lt_of_lt_of_le p39 (Nat.le_trans k44.size p78)))).kp k88).kp k92)
        refine wl_store (.agg #[(.int .i64 ((F_spec_l14Copy x_c).Role)), (.slice a45 ((F_spec_l14Copy x_c).Sn).length c46), (.int .i64 (((F_spec_l14Copy x_c).Cur).N)), (.slice a50 (((F_spec_l14Copy x_c).Cur).Key).length c51), (.int .i64 (((F_spec_l14Copy x_c).Cur).Seq)), (.int .i64 ((((F_spec_l14Copy x_c).Cur).Win).Top)), (.slice a55 ((((F_spec_l14Copy x_c).Cur).Win).Bits).length c56), (.int .i64 (((F_spec_l14Copy x_c).Old).N)), (.slice a60 (((F_spec_l14Copy x_c).Old).Key).length c61), (.int .i64 (((F_spec_l14Copy x_c).Old).Seq)), (.int .i64 ((((F_spec_l14Copy x_c).Old).Win).Top)), (.slice a65 ((((F_spec_l14Copy x_c).Old).Win).Bits).length c66), (.bool ((F_spec_l14Copy x_c).HasOld)), (.int .i64 ((F_spec_l14Copy x_c).Until)), (.slice a70 ((F_spec_l14Copy x_c).Next).length c71)]) [(.int .i64 ((F_spec_l14Copy x_c).Role)), (.slice a45 ((F_spec_l14Copy x_c).Sn).length c46), (.int .i64 (((F_spec_l14Copy x_c).Cur).N)), (.slice a50 (((F_spec_l14Copy x_c).Cur).Key).length c51), (.int .i64 (((F_spec_l14Copy x_c).Cur).Seq)), (.int .i64 ((((F_spec_l14Copy x_c).Cur).Win).Top)), (.slice a55 ((((F_spec_l14Copy x_c).Cur).Win).Bits).length c56), (.int .i64 (((F_spec_l14Copy x_c).Old).N)), (.slice a60 (((F_spec_l14Copy x_c).Old).Key).length c61), (.int .i64 (((F_spec_l14Copy x_c).Old).Seq)), (.int .i64 ((((F_spec_l14Copy x_c).Old).Win).Top)), (.slice a65 ((((F_spec_l14Copy x_c).Old).Win).Bits).length c66), (.bool ((F_spec_l14Copy x_c).HasOld)), (.int .i64 ((F_spec_l14Copy x_c).Until)), (.slice a70 ((F_spec_l14Copy x_c).Next).length c71)] [(.int .i64 ((F_spec_l14Copy x_c).Role)), (.slice a45 ((F_spec_l14Copy x_c).Sn).length c46), (.int .i64 (((F_spec_l14Copy x_c).Cur).N)), (.slice a50 (((F_spec_l14Copy x_c).Cur).Key).length c51), (.int .i64 (((F_spec_l14Copy x_c).Cur).Seq)), (.int .i64 ((((F_spec_l14Copy x_c).Cur).Win).Top)), (.slice a55 ((((F_spec_l14Copy x_c).Cur).Win).Bits).length c56), (.int .i64 (((F_spec_l14Copy x_c).Old).N)), (.slice a60 (((F_spec_l14Copy x_c).Old).Key).length c61), (.int .i64 (((F_spec_l14Copy x_c).Old).Seq)), (.int .i64 ((((F_spec_l14Copy x_c).Old).Win).Top)), (.slice a65 ((((F_spec_l14Copy x_c).Old).Win).Bits).length c66), (.bool ((F_spec_l14Copy x_c).HasOld)), (.int .i64 ((F_spec_l14Copy x_c).Until)), (.slice a70 ((F_spec_l14Copy x_c).Next).length c71)] (want_none rfl) rfl rfl rfl rfl rfl (one_cons rfl (one_cons rfl (one_cons rfl (one_cons rfl (one_cons rfl (one_cons rfl (one_cons rfl (one_cons rfl (one_cons rfl (one_cons rfl (one_cons rfl (one_cons rfl (one_cons rfl (one_cons rfl (one_cons rfl one_nil))))))))))))))) sizeOf_29 b156 rfl rfl ?_
        intro w8 k157 b158 z159
        have m160 := m93.ext k157 (fun k hk => by subst hk; exact Nat.le_trans k34.size p38)
        refine wl_nil ?_
        refine wq_then ?_
        refine wc_ret ?_
        have o161 := (own_ch (own_kp (own_kp (own_ch (own_kp o47 k80) k83 (fun g hg hlt hk => by have h1 := (own_lt o47 g hg).2; have h2 := Nat.le_trans (Nat.le_refl _) p78; omega)) k88) k92) k157 (fun g hg hlt hk => by have h1 := (own_lt o47 g hg).1; have h2 := Nat.lt_of_lt_of_le p39 (Nat.le_refl _); omega))
        have o162 := (own_ch (own_kp (own_kp (own_ch (own_kp o52 k80) k83 (fun g hg hlt hk => by have h1 := (own_lt o52 g hg).2; have h2 := Nat.le_trans (Nat.le_refl _) p78; omega)) k88) k92) k157 (fun g hg hlt hk => by have h1 := (own_lt o52 g hg).1; have h2 := Nat.lt_of_lt_of_le p39 (Nat.le_refl _); omega))
        have o163 := (own_ch (own_kp (own_kp (own_ch (own_kp o57 k80) k83 (fun g hg hlt hk => by have h1 := (own_lt o57 g hg).2; have h2 := Nat.le_trans (Nat.le_refl _) p78; omega)) k88) k92) k157 (fun g hg hlt hk => by have h1 := (own_lt o57 g hg).1; have h2 := Nat.lt_of_lt_of_le p39 (Nat.le_refl _); omega))
        have o164 := (own_ch (own_kp (own_kp (own_ch (own_kp o62 k80) k83 (fun g hg hlt hk => by have h1 := (own_lt o62 g hg).2; have h2 := Nat.le_trans (Nat.le_refl _) p78; omega)) k88) k92) k157 (fun g hg hlt hk => by have h1 := (own_lt o62 g hg).1; have h2 := Nat.lt_of_lt_of_le p39 (Nat.le_refl _); omega))
        have o165 := (own_ch (own_kp (own_kp (own_ch (own_kp o67 k80) k83 (fun g hg hlt hk => by have h1 := (own_lt o67 g hg).2; have h2 := Nat.le_trans (Nat.le_refl _) p78; omega)) k88) k92) k157 (fun g hg hlt hk => by have h1 := (own_lt o67 g hg).1; have h2 := Nat.lt_of_lt_of_le p39 (Nat.le_refl _); omega))
        have o166 := (own_ch (own_kp (own_kp (own_ch (own_kp o72 k80) k83 (fun g hg hlt hk => by have h1 := (own_lt o72 g hg).2; have h2 := Nat.le_trans (Nat.le_refl _) p78; omega)) k88) k92) k157 (fun g hg hlt hk => by have h1 := (own_lt o72 g hg).1; have h2 := Nat.lt_of_lt_of_le p39 (Nat.le_refl _); omega))
        refine ret_1 (.inl rfl) (.agg #[(.int .i64 ((F_spec_l14Copy x_c).Role)), (.slice a45 ((F_spec_l14Copy x_c).Sn).length c46), (.int .i64 (((F_spec_l14Copy x_c).Cur).N)), (.slice a50 (((F_spec_l14Copy x_c).Cur).Key).length c51), (.int .i64 (((F_spec_l14Copy x_c).Cur).Seq)), (.int .i64 ((((F_spec_l14Copy x_c).Cur).Win).Top)), (.slice a55 ((((F_spec_l14Copy x_c).Cur).Win).Bits).length c56), (.int .i64 (((F_spec_l14Copy x_c).Old).N)), (.slice a60 (((F_spec_l14Copy x_c).Old).Key).length c61), (.int .i64 (((F_spec_l14Copy x_c).Old).Seq)), (.int .i64 ((((F_spec_l14Copy x_c).Old).Win).Top)), (.slice a65 ((((F_spec_l14Copy x_c).Old).Win).Bits).length c66), (.bool ((F_spec_l14Copy x_c).HasOld)), (.int .i64 ((F_spec_l14Copy x_c).Until)), (.slice a70 ((F_spec_l14Copy x_c).Next).length c71)]) rfl (rv_c [(.int .i64 ((F_spec_l14Copy x_c).Role)), (.slice a45 ((F_spec_l14Copy x_c).Sn).length c46), (.int .i64 (((F_spec_l14Copy x_c).Cur).N)), (.slice a50 (((F_spec_l14Copy x_c).Cur).Key).length c51), (.int .i64 (((F_spec_l14Copy x_c).Cur).Seq)), (.int .i64 ((((F_spec_l14Copy x_c).Cur).Win).Top)), (.slice a55 ((((F_spec_l14Copy x_c).Cur).Win).Bits).length c56), (.int .i64 (((F_spec_l14Copy x_c).Old).N)), (.slice a60 (((F_spec_l14Copy x_c).Old).Key).length c61), (.int .i64 (((F_spec_l14Copy x_c).Old).Seq)), (.int .i64 ((((F_spec_l14Copy x_c).Old).Win).Top)), (.slice a65 ((((F_spec_l14Copy x_c).Old).Win).Bits).length c66), (.bool ((F_spec_l14Copy x_c).HasOld)), (.int .i64 ((F_spec_l14Copy x_c).Until)), (.slice a70 ((F_spec_l14Copy x_c).Next).length c71)] rfl b158 isAgg_29 sizeOf_29) ?_
        refine ⟨m160.keep0, ?_⟩
        have hF167 : F_spec_ChanTick x_c x_now = (F_spec_l14Copy x_c) := by simp only [F_spec_ChanTick, h90, h94, h97, cond_true, cond_false]
        rw [hF167]
        exact ⟨_, _, _, _, _, _, _, _, _, _, _, _, rfl, (own_lo o161 (Nat.le_trans k34.size k40.size)), s48, (own_lo o162 (Nat.le_trans k34.size k40.size)), s53, (own_lo o163 (Nat.le_trans k34.size k40.size)), s58, (own_lo o164 (Nat.le_trans k34.size k40.size)), s63, (own_lo o165 (Nat.le_trans k34.size k40.size)), s68, (own_lo o166 (Nat.le_trans k34.size k40.size)), s73, ⟨⟨(ap75.1.1), ⟨(ap75.1.2.1), ⟨(ap75.1.2.2.1), ⟨(ap75.1.2.2.2.1), ⟨(ap75.1.2.2.2.2.1), trivial⟩⟩⟩⟩⟩, ⟨⟨(ap75.2.1.1), ⟨(ap75.2.1.2.1), ⟨(ap75.2.1.2.2.1), ⟨(ap75.2.1.2.2.2.1), trivial⟩⟩⟩⟩, ⟨⟨(ap75.2.2.1.1), ⟨(ap75.2.2.1.2.1), ⟨(ap75.2.2.1.2.2.1), trivial⟩⟩⟩, ⟨⟨(ap75.2.2.2.1.1), ⟨(ap75.2.2.2.1.2.1), trivial⟩⟩, ⟨⟨(ap75.2.2.2.2.1.1), trivial⟩, ⟨trivial, trivial⟩⟩⟩⟩⟩⟩⟩
    · have q168 := spec_l1In_f h94
      refine wl_skip rfl rfl rfl (congrArg Value.bool h94) rfl rfl rfl ?_
      refine wl_skip rfl rfl rfl (congrArg Value.bool h94) rfl rfl rfl ?_
      refine wl_pick_f (.bool false) (want_none rfl) rfl rfl rfl (congrArg Value.bool h94) rfl ?_
      refine wl_mv (.bool false) (want_none rfl) rfl rfl (.inl rfl) rfl ?_
      refine wl_skip rfl rfl rfl rfl rfl rfl rfl ?_
      refine wl_skip rfl rfl rfl rfl rfl rfl rfl ?_
      refine wl_skip rfl rfl rfl rfl rfl rfl rfl ?_
      refine wl_pick_f (.bool false) (want_none rfl) rfl rfl rfl rfl rfl ?_
      refine wl_mv (.bool false) (want_none rfl) rfl rfl (.inl rfl) rfl ?_
      refine wl_skip rfl rfl rfl rfl rfl rfl rfl ?_
      refine wl_skip rfl rfl rfl rfl rfl rfl rfl ?_
      refine wl_skip rfl rfl rfl rfl rfl rfl rfl ?_
      refine wl_skip rfl rfl rfl rfl rfl rfl rfl ?_
      refine wl_pick_f (.bool false) (want_none rfl) rfl rfl rfl rfl rfl ?_
      refine wl_nil ?_
      refine wq_then ?_
      refine wc_false rfl ?_
      refine wc_skip ?_
      refine wq_then ?_
      refine wc_seq ?_
      refine wc_region ?_
      have b169 := ((b84.kp k88).kp k92)
      refine wl_loadN [(.int .i64 ((F_spec_l14Copy x_c).Role)), (.slice a45 ((F_spec_l14Copy x_c).Sn).length c46), (.int .i64 (((F_spec_l14Copy x_c).Cur).N)), (.slice a50 (((F_spec_l14Copy x_c).Cur).Key).length c51), (.int .i64 (((F_spec_l14Copy x_c).Cur).Seq)), (.int .i64 ((((F_spec_l14Copy x_c).Cur).Win).Top)), (.slice a55 ((((F_spec_l14Copy x_c).Cur).Win).Bits).length c56), (.int .i64 (((F_spec_l14Copy x_c).Old).N)), (.slice a60 (((F_spec_l14Copy x_c).Old).Key).length c61), (.int .i64 (((F_spec_l14Copy x_c).Old).Seq)), (.int .i64 ((((F_spec_l14Copy x_c).Old).Win).Top)), (.slice a65 ((((F_spec_l14Copy x_c).Old).Win).Bits).length c66), (.bool ((F_spec_l14Copy x_c).HasOld)), (.int .i64 ((F_spec_l14Copy x_c).Until)), (.slice a70 ((F_spec_l14Copy x_c).Next).length c71)] (want_none rfl) rfl rfl rfl rfl isAgg_29 sizeOf_29 b169 rfl ?_
      have b170 := (((((b41.kp k44).kp k80).ch k83 (Nat.ne_of_lt (Nat.lt_of_lt_of_le p39 (Nat.le_trans k44.size p78)))).kp k88).kp k92)
      refine wl_store (.agg #[(.int .i64 ((F_spec_l14Copy x_c).Role)), (.slice a45 ((F_spec_l14Copy x_c).Sn).length c46), (.int .i64 (((F_spec_l14Copy x_c).Cur).N)), (.slice a50 (((F_spec_l14Copy x_c).Cur).Key).length c51), (.int .i64 (((F_spec_l14Copy x_c).Cur).Seq)), (.int .i64 ((((F_spec_l14Copy x_c).Cur).Win).Top)), (.slice a55 ((((F_spec_l14Copy x_c).Cur).Win).Bits).length c56), (.int .i64 (((F_spec_l14Copy x_c).Old).N)), (.slice a60 (((F_spec_l14Copy x_c).Old).Key).length c61), (.int .i64 (((F_spec_l14Copy x_c).Old).Seq)), (.int .i64 ((((F_spec_l14Copy x_c).Old).Win).Top)), (.slice a65 ((((F_spec_l14Copy x_c).Old).Win).Bits).length c66), (.bool ((F_spec_l14Copy x_c).HasOld)), (.int .i64 ((F_spec_l14Copy x_c).Until)), (.slice a70 ((F_spec_l14Copy x_c).Next).length c71)]) [(.int .i64 ((F_spec_l14Copy x_c).Role)), (.slice a45 ((F_spec_l14Copy x_c).Sn).length c46), (.int .i64 (((F_spec_l14Copy x_c).Cur).N)), (.slice a50 (((F_spec_l14Copy x_c).Cur).Key).length c51), (.int .i64 (((F_spec_l14Copy x_c).Cur).Seq)), (.int .i64 ((((F_spec_l14Copy x_c).Cur).Win).Top)), (.slice a55 ((((F_spec_l14Copy x_c).Cur).Win).Bits).length c56), (.int .i64 (((F_spec_l14Copy x_c).Old).N)), (.slice a60 (((F_spec_l14Copy x_c).Old).Key).length c61), (.int .i64 (((F_spec_l14Copy x_c).Old).Seq)), (.int .i64 ((((F_spec_l14Copy x_c).Old).Win).Top)), (.slice a65 ((((F_spec_l14Copy x_c).Old).Win).Bits).length c66), (.bool ((F_spec_l14Copy x_c).HasOld)), (.int .i64 ((F_spec_l14Copy x_c).Until)), (.slice a70 ((F_spec_l14Copy x_c).Next).length c71)] [(.int .i64 ((F_spec_l14Copy x_c).Role)), (.slice a45 ((F_spec_l14Copy x_c).Sn).length c46), (.int .i64 (((F_spec_l14Copy x_c).Cur).N)), (.slice a50 (((F_spec_l14Copy x_c).Cur).Key).length c51), (.int .i64 (((F_spec_l14Copy x_c).Cur).Seq)), (.int .i64 ((((F_spec_l14Copy x_c).Cur).Win).Top)), (.slice a55 ((((F_spec_l14Copy x_c).Cur).Win).Bits).length c56), (.int .i64 (((F_spec_l14Copy x_c).Old).N)), (.slice a60 (((F_spec_l14Copy x_c).Old).Key).length c61), (.int .i64 (((F_spec_l14Copy x_c).Old).Seq)), (.int .i64 ((((F_spec_l14Copy x_c).Old).Win).Top)), (.slice a65 ((((F_spec_l14Copy x_c).Old).Win).Bits).length c66), (.bool ((F_spec_l14Copy x_c).HasOld)), (.int .i64 ((F_spec_l14Copy x_c).Until)), (.slice a70 ((F_spec_l14Copy x_c).Next).length c71)] (want_none rfl) rfl rfl rfl rfl rfl (one_cons rfl (one_cons rfl (one_cons rfl (one_cons rfl (one_cons rfl (one_cons rfl (one_cons rfl (one_cons rfl (one_cons rfl (one_cons rfl (one_cons rfl (one_cons rfl (one_cons rfl (one_cons rfl (one_cons rfl one_nil))))))))))))))) sizeOf_29 b170 rfl rfl ?_
      intro w8 k171 b172 z173
      have m174 := m93.ext k171 (fun k hk => by subst hk; exact Nat.le_trans k34.size p38)
      refine wl_nil ?_
      refine wq_then ?_
      refine wc_ret ?_
      have o175 := (own_ch (own_kp (own_kp (own_ch (own_kp o47 k80) k83 (fun g hg hlt hk => by have h1 := (own_lt o47 g hg).2; have h2 := Nat.le_trans (Nat.le_refl _) p78; omega)) k88) k92) k171 (fun g hg hlt hk => by have h1 := (own_lt o47 g hg).1; have h2 := Nat.lt_of_lt_of_le p39 (Nat.le_refl _); omega))
      have o176 := (own_ch (own_kp (own_kp (own_ch (own_kp o52 k80) k83 (fun g hg hlt hk => by have h1 := (own_lt o52 g hg).2; have h2 := Nat.le_trans (Nat.le_refl _) p78; omega)) k88) k92) k171 (fun g hg hlt hk => by have h1 := (own_lt o52 g hg).1; have h2 := Nat.lt_of_lt_of_le p39 (Nat.le_refl _); omega))
      have o177 := (own_ch (own_kp (own_kp (own_ch (own_kp o57 k80) k83 (fun g hg hlt hk => by have h1 := (own_lt o57 g hg).2; have h2 := Nat.le_trans (Nat.le_refl _) p78; omega)) k88) k92) k171 (fun g hg hlt hk => by have h1 := (own_lt o57 g hg).1; have h2 := Nat.lt_of_lt_of_le p39 (Nat.le_refl _); omega))
      have o178 := (own_ch (own_kp (own_kp (own_ch (own_kp o62 k80) k83 (fun g hg hlt hk => by have h1 := (own_lt o62 g hg).2; have h2 := Nat.le_trans (Nat.le_refl _) p78; omega)) k88) k92) k171 (fun g hg hlt hk => by have h1 := (own_lt o62 g hg).1; have h2 := Nat.lt_of_lt_of_le p39 (Nat.le_refl _); omega))
      have o179 := (own_ch (own_kp (own_kp (own_ch (own_kp o67 k80) k83 (fun g hg hlt hk => by have h1 := (own_lt o67 g hg).2; have h2 := Nat.le_trans (Nat.le_refl _) p78; omega)) k88) k92) k171 (fun g hg hlt hk => by have h1 := (own_lt o67 g hg).1; have h2 := Nat.lt_of_lt_of_le p39 (Nat.le_refl _); omega))
      have o180 := (own_ch (own_kp (own_kp (own_ch (own_kp o72 k80) k83 (fun g hg hlt hk => by have h1 := (own_lt o72 g hg).2; have h2 := Nat.le_trans (Nat.le_refl _) p78; omega)) k88) k92) k171 (fun g hg hlt hk => by have h1 := (own_lt o72 g hg).1; have h2 := Nat.lt_of_lt_of_le p39 (Nat.le_refl _); omega))
      refine ret_1 (.inl rfl) (.agg #[(.int .i64 ((F_spec_l14Copy x_c).Role)), (.slice a45 ((F_spec_l14Copy x_c).Sn).length c46), (.int .i64 (((F_spec_l14Copy x_c).Cur).N)), (.slice a50 (((F_spec_l14Copy x_c).Cur).Key).length c51), (.int .i64 (((F_spec_l14Copy x_c).Cur).Seq)), (.int .i64 ((((F_spec_l14Copy x_c).Cur).Win).Top)), (.slice a55 ((((F_spec_l14Copy x_c).Cur).Win).Bits).length c56), (.int .i64 (((F_spec_l14Copy x_c).Old).N)), (.slice a60 (((F_spec_l14Copy x_c).Old).Key).length c61), (.int .i64 (((F_spec_l14Copy x_c).Old).Seq)), (.int .i64 ((((F_spec_l14Copy x_c).Old).Win).Top)), (.slice a65 ((((F_spec_l14Copy x_c).Old).Win).Bits).length c66), (.bool ((F_spec_l14Copy x_c).HasOld)), (.int .i64 ((F_spec_l14Copy x_c).Until)), (.slice a70 ((F_spec_l14Copy x_c).Next).length c71)]) rfl (rv_c [(.int .i64 ((F_spec_l14Copy x_c).Role)), (.slice a45 ((F_spec_l14Copy x_c).Sn).length c46), (.int .i64 (((F_spec_l14Copy x_c).Cur).N)), (.slice a50 (((F_spec_l14Copy x_c).Cur).Key).length c51), (.int .i64 (((F_spec_l14Copy x_c).Cur).Seq)), (.int .i64 ((((F_spec_l14Copy x_c).Cur).Win).Top)), (.slice a55 ((((F_spec_l14Copy x_c).Cur).Win).Bits).length c56), (.int .i64 (((F_spec_l14Copy x_c).Old).N)), (.slice a60 (((F_spec_l14Copy x_c).Old).Key).length c61), (.int .i64 (((F_spec_l14Copy x_c).Old).Seq)), (.int .i64 ((((F_spec_l14Copy x_c).Old).Win).Top)), (.slice a65 ((((F_spec_l14Copy x_c).Old).Win).Bits).length c66), (.bool ((F_spec_l14Copy x_c).HasOld)), (.int .i64 ((F_spec_l14Copy x_c).Until)), (.slice a70 ((F_spec_l14Copy x_c).Next).length c71)] rfl b172 isAgg_29 sizeOf_29) ?_
      refine ⟨m174.keep0, ?_⟩
      have hF181 : F_spec_ChanTick x_c x_now = (F_spec_l14Copy x_c) := by simp only [F_spec_ChanTick, h90, h94, cond_true, cond_false]
      rw [hF181]
      exact ⟨_, _, _, _, _, _, _, _, _, _, _, _, rfl, (own_lo o175 (Nat.le_trans k34.size k40.size)), s48, (own_lo o176 (Nat.le_trans k34.size k40.size)), s53, (own_lo o177 (Nat.le_trans k34.size k40.size)), s58, (own_lo o178 (Nat.le_trans k34.size k40.size)), s63, (own_lo o179 (Nat.le_trans k34.size k40.size)), s68, (own_lo o180 (Nat.le_trans k34.size k40.size)), s73, ⟨⟨(ap75.1.1), ⟨(ap75.1.2.1), ⟨(ap75.1.2.2.1), ⟨(ap75.1.2.2.2.1), ⟨(ap75.1.2.2.2.2.1), trivial⟩⟩⟩⟩⟩, ⟨⟨(ap75.2.1.1), ⟨(ap75.2.1.2.1), ⟨(ap75.2.1.2.2.1), ⟨(ap75.2.1.2.2.2.1), trivial⟩⟩⟩⟩, ⟨⟨(ap75.2.2.1.1), ⟨(ap75.2.2.1.2.1), ⟨(ap75.2.2.1.2.2.1), trivial⟩⟩⟩, ⟨⟨(ap75.2.2.2.1.1), ⟨(ap75.2.2.2.1.2.1), trivial⟩⟩, ⟨⟨(ap75.2.2.2.2.1.1), trivial⟩, ⟨trivial, trivial⟩⟩⟩⟩⟩⟩⟩
  · skip
    refine wl_skip rfl rfl rfl (congrArg Value.bool h90) rfl rfl rfl ?_
    refine wl_skip rfl rfl rfl (congrArg Value.bool h90) rfl rfl rfl ?_
    refine wl_pick_f (.bool false) (want_none rfl) rfl rfl rfl (congrArg Value.bool h90) rfl ?_
    refine wl_mv (.bool false) (want_none rfl) rfl rfl (.inl rfl) rfl ?_
    refine wl_skip rfl rfl rfl rfl rfl rfl rfl ?_
    refine wl_skip rfl rfl rfl rfl rfl rfl rfl ?_
    refine wl_pick_f (.bool false) (want_none rfl) rfl rfl rfl rfl rfl ?_
    refine wl_mv (.bool false) (want_none rfl) rfl rfl (.inl rfl) rfl ?_
    refine wl_skip rfl rfl rfl rfl rfl rfl rfl ?_
    refine wl_skip rfl rfl rfl rfl rfl rfl rfl ?_
    refine wl_skip rfl rfl rfl rfl rfl rfl rfl ?_
    refine wl_pick_f (.bool false) (want_none rfl) rfl rfl rfl rfl rfl ?_
    refine wl_mv (.bool false) (want_none rfl) rfl rfl (.inl rfl) rfl ?_
    refine wl_skip rfl rfl rfl rfl rfl rfl rfl ?_
    refine wl_skip rfl rfl rfl rfl rfl rfl rfl ?_
    refine wl_skip rfl rfl rfl rfl rfl rfl rfl ?_
    refine wl_skip rfl rfl rfl rfl rfl rfl rfl ?_
    refine wl_pick_f (.bool false) (want_none rfl) rfl rfl rfl rfl rfl ?_
    refine wl_nil ?_
    refine wq_then ?_
    refine wc_false rfl ?_
    refine wc_skip ?_
    refine wq_then ?_
    refine wc_seq ?_
    refine wc_region ?_
    have b183 := (b84.kp k88)
    refine wl_loadN [(.int .i64 ((F_spec_l14Copy x_c).Role)), (.slice a45 ((F_spec_l14Copy x_c).Sn).length c46), (.int .i64 (((F_spec_l14Copy x_c).Cur).N)), (.slice a50 (((F_spec_l14Copy x_c).Cur).Key).length c51), (.int .i64 (((F_spec_l14Copy x_c).Cur).Seq)), (.int .i64 ((((F_spec_l14Copy x_c).Cur).Win).Top)), (.slice a55 ((((F_spec_l14Copy x_c).Cur).Win).Bits).length c56), (.int .i64 (((F_spec_l14Copy x_c).Old).N)), (.slice a60 (((F_spec_l14Copy x_c).Old).Key).length c61), (.int .i64 (((F_spec_l14Copy x_c).Old).Seq)), (.int .i64 ((((F_spec_l14Copy x_c).Old).Win).Top)), (.slice a65 ((((F_spec_l14Copy x_c).Old).Win).Bits).length c66), (.bool ((F_spec_l14Copy x_c).HasOld)), (.int .i64 ((F_spec_l14Copy x_c).Until)), (.slice a70 ((F_spec_l14Copy x_c).Next).length c71)] (want_none rfl) rfl rfl rfl rfl isAgg_29 sizeOf_29 b183 rfl ?_
    have b184 := ((((b41.kp k44).kp k80).ch k83 (Nat.ne_of_lt (Nat.lt_of_lt_of_le p39 (Nat.le_trans k44.size p78)))).kp k88)
    refine wl_store (.agg #[(.int .i64 ((F_spec_l14Copy x_c).Role)), (.slice a45 ((F_spec_l14Copy x_c).Sn).length c46), (.int .i64 (((F_spec_l14Copy x_c).Cur).N)), (.slice a50 (((F_spec_l14Copy x_c).Cur).Key).length c51), (.int .i64 (((F_spec_l14Copy x_c).Cur).Seq)), (.int .i64 ((((F_spec_l14Copy x_c).Cur).Win).Top)), (.slice a55 ((((F_spec_l14Copy x_c).Cur).Win).Bits).length c56), (.int .i64 (((F_spec_l14Copy x_c).Old).N)), (.slice a60 (((F_spec_l14Copy x_c).Old).Key).length c61), (.int .i64 (((F_spec_l14Copy x_c).Old).Seq)), (.int .i64 ((((F_spec_l14Copy x_c).Old).Win).Top)), (.slice a65 ((((F_spec_l14Copy x_c).Old).Win).Bits).length c66), (.bool ((F_spec_l14Copy x_c).HasOld)), (.int .i64 ((F_spec_l14Copy x_c).Until)), (.slice a70 ((F_spec_l14Copy x_c).Next).length c71)]) [(.int .i64 ((F_spec_l14Copy x_c).Role)), (.slice a45 ((F_spec_l14Copy x_c).Sn).length c46), (.int .i64 (((F_spec_l14Copy x_c).Cur).N)), (.slice a50 (((F_spec_l14Copy x_c).Cur).Key).length c51), (.int .i64 (((F_spec_l14Copy x_c).Cur).Seq)), (.int .i64 ((((F_spec_l14Copy x_c).Cur).Win).Top)), (.slice a55 ((((F_spec_l14Copy x_c).Cur).Win).Bits).length c56), (.int .i64 (((F_spec_l14Copy x_c).Old).N)), (.slice a60 (((F_spec_l14Copy x_c).Old).Key).length c61), (.int .i64 (((F_spec_l14Copy x_c).Old).Seq)), (.int .i64 ((((F_spec_l14Copy x_c).Old).Win).Top)), (.slice a65 ((((F_spec_l14Copy x_c).Old).Win).Bits).length c66), (.bool ((F_spec_l14Copy x_c).HasOld)), (.int .i64 ((F_spec_l14Copy x_c).Until)), (.slice a70 ((F_spec_l14Copy x_c).Next).length c71)] [(.int .i64 ((F_spec_l14Copy x_c).Role)), (.slice a45 ((F_spec_l14Copy x_c).Sn).length c46), (.int .i64 (((F_spec_l14Copy x_c).Cur).N)), (.slice a50 (((F_spec_l14Copy x_c).Cur).Key).length c51), (.int .i64 (((F_spec_l14Copy x_c).Cur).Seq)), (.int .i64 ((((F_spec_l14Copy x_c).Cur).Win).Top)), (.slice a55 ((((F_spec_l14Copy x_c).Cur).Win).Bits).length c56), (.int .i64 (((F_spec_l14Copy x_c).Old).N)), (.slice a60 (((F_spec_l14Copy x_c).Old).Key).length c61), (.int .i64 (((F_spec_l14Copy x_c).Old).Seq)), (.int .i64 ((((F_spec_l14Copy x_c).Old).Win).Top)), (.slice a65 ((((F_spec_l14Copy x_c).Old).Win).Bits).length c66), (.bool ((F_spec_l14Copy x_c).HasOld)), (.int .i64 ((F_spec_l14Copy x_c).Until)), (.slice a70 ((F_spec_l14Copy x_c).Next).length c71)] (want_none rfl) rfl rfl rfl rfl rfl (one_cons rfl (one_cons rfl (one_cons rfl (one_cons rfl (one_cons rfl (one_cons rfl (one_cons rfl (one_cons rfl (one_cons rfl (one_cons rfl (one_cons rfl (one_cons rfl (one_cons rfl (one_cons rfl (one_cons rfl one_nil))))))))))))))) sizeOf_29 b184 rfl rfl ?_
    intro w7 k185 b186 z187
    have m188 := m89.ext k185 (fun k hk => by subst hk; exact Nat.le_trans k34.size p38)
    refine wl_nil ?_
    refine wq_then ?_
    refine wc_ret ?_
    have o189 := (own_ch (own_kp (own_ch (own_kp o47 k80) k83 (fun g hg hlt hk => by have h1 := (own_lt o47 g hg).2; have h2 := Nat.le_trans (Nat.le_refl _) p78; omega)) k88) k185 (fun g hg hlt hk => by have h1 := (own_lt o47 g hg).1; have h2 := Nat.lt_of_lt_of_le p39 (Nat.le_refl _); omega))
    have o190 := (own_ch (own_kp (own_ch (own_kp o52 k80) k83 (fun g hg hlt hk => by have h1 := (own_lt o52 g hg).2; have h2 := Nat.le_trans (Nat.le_refl _) p78; omega)) k88) k185 (fun g hg hlt hk => by have h1 := (own_lt o52 g hg).1; have h2 := Nat.lt_of_lt_of_le p39 (Nat.le_refl _); omega))
    have o191 := (own_ch (own_kp (own_ch (own_kp o57 k80) k83 (fun g hg hlt hk => by have h1 := (own_lt o57 g hg).2; have h2 := Nat.le_trans (Nat.le_refl _) p78; omega)) k88) k185 (fun g hg hlt hk => by have h1 := (own_lt o57 g hg).1; have h2 := Nat.lt_of_lt_of_le p39 (Nat.le_refl _); omega))
    have o192 := (own_ch (own_kp (own_ch (own_kp o62 k80) k83 (fun g hg hlt hk => by have h1 := (own_lt o62 g hg).2; have h2 := Nat.le_trans (Nat.le_refl _) p78; omega)) k88) k185 (fun g hg hlt hk => by have h1 := (own_lt o62 g hg).1; have h2 := Nat.lt_of_lt_of_le p39 (Nat.le_refl _); omega))
    have o193 := (own_ch (own_kp (own_ch (own_kp o67 k80) k83 (fun g hg hlt hk => by have h1 := (own_lt o67 g hg).2; have h2 := Nat.le_trans (Nat.le_refl _) p78; omega)) k88) k185 (fun g hg hlt hk => by have h1 := (own_lt o67 g hg).1; have h2 := Nat.lt_of_lt_of_le p39 (Nat.le_refl _); omega))
    have o194 := (own_ch (own_kp (own_ch (own_kp o72 k80) k83 (fun g hg hlt hk => by have h1 := (own_lt o72 g hg).2; have h2 := Nat.le_trans (Nat.le_refl _) p78; omega)) k88) k185 (fun g hg hlt hk => by have h1 := (own_lt o72 g hg).1; have h2 := Nat.lt_of_lt_of_le p39 (Nat.le_refl _); omega))
    refine ret_1 (.inl rfl) (.agg #[(.int .i64 ((F_spec_l14Copy x_c).Role)), (.slice a45 ((F_spec_l14Copy x_c).Sn).length c46), (.int .i64 (((F_spec_l14Copy x_c).Cur).N)), (.slice a50 (((F_spec_l14Copy x_c).Cur).Key).length c51), (.int .i64 (((F_spec_l14Copy x_c).Cur).Seq)), (.int .i64 ((((F_spec_l14Copy x_c).Cur).Win).Top)), (.slice a55 ((((F_spec_l14Copy x_c).Cur).Win).Bits).length c56), (.int .i64 (((F_spec_l14Copy x_c).Old).N)), (.slice a60 (((F_spec_l14Copy x_c).Old).Key).length c61), (.int .i64 (((F_spec_l14Copy x_c).Old).Seq)), (.int .i64 ((((F_spec_l14Copy x_c).Old).Win).Top)), (.slice a65 ((((F_spec_l14Copy x_c).Old).Win).Bits).length c66), (.bool ((F_spec_l14Copy x_c).HasOld)), (.int .i64 ((F_spec_l14Copy x_c).Until)), (.slice a70 ((F_spec_l14Copy x_c).Next).length c71)]) rfl (rv_c [(.int .i64 ((F_spec_l14Copy x_c).Role)), (.slice a45 ((F_spec_l14Copy x_c).Sn).length c46), (.int .i64 (((F_spec_l14Copy x_c).Cur).N)), (.slice a50 (((F_spec_l14Copy x_c).Cur).Key).length c51), (.int .i64 (((F_spec_l14Copy x_c).Cur).Seq)), (.int .i64 ((((F_spec_l14Copy x_c).Cur).Win).Top)), (.slice a55 ((((F_spec_l14Copy x_c).Cur).Win).Bits).length c56), (.int .i64 (((F_spec_l14Copy x_c).Old).N)), (.slice a60 (((F_spec_l14Copy x_c).Old).Key).length c61), (.int .i64 (((F_spec_l14Copy x_c).Old).Seq)), (.int .i64 ((((F_spec_l14Copy x_c).Old).Win).Top)), (.slice a65 ((((F_spec_l14Copy x_c).Old).Win).Bits).length c66), (.bool ((F_spec_l14Copy x_c).HasOld)), (.int .i64 ((F_spec_l14Copy x_c).Until)), (.slice a70 ((F_spec_l14Copy x_c).Next).length c71)] rfl b186 isAgg_29 sizeOf_29) ?_
    refine ⟨m188.keep0, ?_⟩
    have hF195 : F_spec_ChanTick x_c x_now = (F_spec_l14Copy x_c) := by simp only [F_spec_ChanTick, h90, cond_true, cond_false]
    rw [hF195]
    exact ⟨_, _, _, _, _, _, _, _, _, _, _, _, rfl, (own_lo o189 (Nat.le_trans k34.size k40.size)), s48, (own_lo o190 (Nat.le_trans k34.size k40.size)), s53, (own_lo o191 (Nat.le_trans k34.size k40.size)), s58, (own_lo o192 (Nat.le_trans k34.size k40.size)), s63, (own_lo o193 (Nat.le_trans k34.size k40.size)), s68, (own_lo o194 (Nat.le_trans k34.size k40.size)), s73, ⟨⟨(ap75.1.1), ⟨(ap75.1.2.1), ⟨(ap75.1.2.2.1), ⟨(ap75.1.2.2.2.1), ⟨(ap75.1.2.2.2.2.1), trivial⟩⟩⟩⟩⟩, ⟨⟨(ap75.2.1.1), ⟨(ap75.2.1.2.1), ⟨(ap75.2.1.2.2.1), ⟨(ap75.2.1.2.2.2.1), trivial⟩⟩⟩⟩, ⟨⟨(ap75.2.2.1.1), ⟨(ap75.2.2.1.2.1), ⟨(ap75.2.2.1.2.2.1), trivial⟩⟩⟩, ⟨⟨(ap75.2.2.2.1.1), ⟨(ap75.2.2.2.1.2.1), trivial⟩⟩, ⟨⟨(ap75.2.2.2.2.1.1), trivial⟩, ⟨trivial, trivial⟩⟩⟩⟩⟩⟩⟩

def F_impl_copyWin (x_w : PWin) : (PWin) := x_w
theorem C_impl_copyWin (w0 : World) (v_x_w : Value) (x_w : PWin) (r_x_w : R_25 w0 v_x_w x_w)  : Fn Try.prog 129 #[v_x_w] w0 (fun v w' => Keep w0 w' ∧ O_25 w' w0.heap.size v (F_impl_copyWin x_w)) := by
  obtain ⟨a1, c2, rfl, r3, s4⟩ := r_x_w
  refine fn_of (n := 10) (l := [(.agg #[(.int .i64 x_w.Top), (.slice a1 x_w.Bits.length c2)]), undef, undef, undef, undef, undef, undef, undef, undef, undef]) Try.func129 rfl rfl (by kernel_rfl) rfl ?_
  refine wc_seq ?_
  refine wc_region ?_
  refine wl_box (want_none rfl) [(.int .i64 x_w.Top), (.slice a1 x_w.Bits.length c2)] rfl rfl rfl rfl ?_
  intro g6 w1 p7 p8 k9 b10
  have m11 := (Ch.base w0).extk k9
  refine wl_alloc (want_none rfl) (.agg #[(.int .i64 0), (.slice none 0 0)]) [(.int .i64 0), (.slice none 0 0)] zero_25 rfl rfl rfl rfl ?_
  intro g12 w2 p13 p14 k15 b16
  have m17 := m11.extk k15
  refine wl_nil ?_
  refine wq_then ?_
  refine wc_seq ?_
  refine wc_draw ([(3, [], [], (fun _ v _ => v = (.pointer (some ⟨g6, 0, none⟩)))), (4, [], [0], (fun _ v _ => v = (.int .i64 x_w.Top))), (5, [], [], (fun _ v w => ∃ a0 : Addr, v = .slice (some a0) 0 0 ∧ w.ownsRow w2.heap.size 3 1 (.slice (some a0) 0 0) 0 [])), (6, [], [], (fun _ v _ => v = (.pointer (some ⟨g6, 1, none⟩)))), (7, [], [3], (fun _ v _ => v = (.slice a1 x_w.Bits.length c2))), (8, [], [2, 3, 4], (fun _ v w => ∃ (a1 : Option Addr) (c1 : Nat), v = .slice a1 x_w.Bits.length c1 ∧ w.ownsRow w2.heap.size 3 1 (.slice a1 x_w.Bits.length c1) x_w.Bits.length (x_w.Bits.map iV) ∧ x_w.Bits.length ≤ 1073741824 ∧ Aps [(a1, c1)])), (9, [8], [0, 1, 2, 3, 4, 5], (fun e v _ => v = (.agg #[(.int .i64 x_w.Top), (e 8)])))] : GV) mixed rfl (by kernel_rfl) (by kernel_rfl) ?_ ?_ ?_
  · exact ⟨(fun _ _ _ _ h _ => h), (fun _ _ _ _ _ h => h), ⟨(fun _ _ _ _ h _ => h), (fun _ _ _ _ _ h => h), ⟨(fun e v w w1 h hk => by obtain ⟨a0x, he, o0x⟩ := h; exact ⟨a0x, he, own_kp o0x hk⟩), (fun _ _ _ _ _ h => h), ⟨(fun _ _ _ _ h _ => h), (fun _ _ _ _ _ h => h), ⟨(fun _ _ _ _ h _ => h), (fun _ _ _ _ _ h => h), ⟨(fun e v w w1 h hk => by obtain ⟨a0x, c0x, he, o0x, l0x, hap⟩ := h; exact ⟨a0x, c0x, he, own_kp o0x hk, l0x, hap⟩), (fun _ _ _ _ _ h => h), ⟨(fun _ _ _ _ h _ => h), (fun e1 e2 v w hx h => by have h8x := hx 8 (by simp); simp only [h8x] at h; exact h), trivial⟩⟩⟩⟩⟩⟩⟩
  · refine ⟨?_, ⟨?_, ⟨?_, ⟨?_, ⟨?_, ⟨?_, ⟨?_, trivial⟩⟩⟩⟩⟩⟩⟩
    · intro w3 k54
      have m55 := m17.extk k54
      intro u56
      intro u57
      intro u58
      intro u59
      intro u60
      intro u61
      intro u62
      show WL _ _ _ _ _ _ _
      refine wl_pure (.pointer (some ⟨g6, 0, none⟩)) (want_none rfl) rfl rfl (by kernel_rfl) ?_
      exact wl_fin (Ch.refl _ _) rfl
    · intro w3 k63
      have m64 := m17.extk k63
      rintro _ rfl
      intro u65
      intro u66
      intro u67
      intro u68
      intro u69
      intro u70
      show WL _ _ _ _ _ _ _
      have b71 := ((b10.kp k15).kp k63)
      refine wl_load1 (.int .i64 x_w.Top) (want_none rfl) rfl rfl rfl rfl isAgg_3 b71 rfl ?_
      exact wl_fin (Ch.refl _ _) rfl
    · intro w3 k72
      have m73 := m17.extk k72
      intro u74
      intro u75
      intro u76
      intro u77
      intro u78
      intro u79
      intro u80
      show WL _ _ _ _ _ _ _
      refine wl_lit0 (want_none rfl) rfl rfl slTy_23 (fun w => by kernel_rfl) ?_
      intro a81 w4 k82 o83
      have m84 := m73.extk k82
      exact wl_fin k82 ⟨_, rfl, own_lo o83 k72.size⟩
    · intro w3 k86
      have m87 := m17.extk k86
      intro u88
      intro u89
      intro u90
      intro u91
      intro u92
      intro u93
      intro u94
      show WL _ _ _ _ _ _ _
      refine wl_pure (.pointer (some ⟨g6, 1, none⟩)) (want_none rfl) rfl rfl (by kernel_rfl) ?_
      exact wl_fin (Ch.refl _ _) rfl
    · intro w3 k95
      have m96 := m17.extk k95
      intro u97
      intro u98
      intro u99
      rintro _ rfl
      intro u100
      intro u101
      intro u102
      show WL _ _ _ _ _ _ _
      have b103 := ((b10.kp k15).kp k95)
      refine wl_load1 (.slice a1 x_w.Bits.length c2) (want_none rfl) rfl rfl rfl rfl isAgg_23 b103 rfl ?_
      exact wl_fin (Ch.refl _ _) rfl
    · intro w3 k104
      have m105 := m17.extk k104
      intro u106
      intro u107
      rintro _ ⟨a108, rfl, o110⟩
      rintro _ rfl
      rintro _ rfl
      intro u114
      intro u115
      show WL _ _ _ _ _ _ _
      refine wl_append0 (want_none rfl) rfl rfl rfl slTy_23 rfl rfl o110 (r3.from0 m105) (all_iV _) (by (try simp only [List.length_append, List.length_cons, List.length_nil]); omega) (by simp only [maxLen]; (try simp only [List.length_append, List.length_cons, List.length_nil]); omega) k104.size ?_
      intro u116 w4 k117 o118 j119
      obtain ⟨a120, c121, rfl⟩ := own_form o118
      have n122 : New w3 a120 c121 := j119 _ _ rfl
      have m123 := m105.extk k117
      exact wl_fin k117 ⟨_, _, rfl, o118, s4, ⟨trivial, trivial⟩⟩
    · intro w3 k125
      have m126 := m17.extk k125
      rintro _ rfl
      rintro _ rfl
      rintro _ ⟨a128, rfl, o130⟩
      rintro _ rfl
      rintro _ rfl
      rintro _ ⟨a134, c135, rfl, o136, s137, -⟩
      intro u139
      show WL _ _ _ _ _ _ _
      refine wl_pure (.agg #[(.int .i64 x_w.Top), (.slice a134 x_w.Bits.length c135)]) (want_none rfl) rfl rfl (by kernel_rfl) ?_
      exact wl_fin (Ch.refl _ _) rfl
  · intro w3 k140
    have m141 := m17.extk k140
    rintro _ rfl
    rintro _ rfl
    rintro _ ⟨a143, rfl, o145⟩
    rintro _ rfl
    rintro _ rfl
    rintro _ ⟨a149, c150, rfl, o151, s152, -⟩
    rintro _ rfl
    show WL _ _ _ _ _ _ _
    have b154 := (b16.kp k140)
    refine wl_store (.agg #[(.int .i64 x_w.Top), (.slice a149 x_w.Bits.length c150)]) [(.int .i64 x_w.Top), (.slice a149 x_w.Bits.length c150)] [(.int .i64 x_w.Top), (.slice a149 x_w.Bits.length c150)] (want_none rfl) rfl rfl rfl rfl rfl (one_cons rfl (one_cons rfl one_nil)) sizeOf_25 b154 rfl rfl ?_
    intro w4 k155 b156 z157
    have m158 := m141.ext k155 (fun k hk => by subst hk; exact Nat.le_trans k9.size p13)
    refine wl_nil ?_
    refine wq_then ?_
    refine wc_ret ?_
    have o159 := (own_ch o151 k155 (fun g hg hlt hk => by have h1 := (own_lt o151 g hg).1; have h2 := Nat.lt_of_lt_of_le p14 (Nat.le_refl _); omega))
    refine ret_1 (.inl rfl) (.agg #[(.int .i64 x_w.Top), (.slice a149 x_w.Bits.length c150)]) rfl (rv_c [(.int .i64 x_w.Top), (.slice a149 x_w.Bits.length c150)] rfl b156 isAgg_25 sizeOf_25) ?_
    refine ⟨m158.keep0, ?_⟩
    have hF160 : F_impl_copyWin x_w = x_w := by rfl
    rw [hF160]
    exact ⟨_, _, rfl, (own_lo o159 (Nat.le_trans k9.size k15.size)), s152, ⟨trivial, trivial⟩⟩

def F_impl_copyEp (x_e : PEp) : (PEp) := { N := x_e.N, Key := (F_impl_clone x_e.Key), Seq := x_e.Seq, Win := (F_impl_copyWin x_e.Win) : PEp }
theorem C_impl_copyEp (w0 : World) (v_x_e : Value) (x_e : PEp) (r_x_e : R_27 w0 v_x_e x_e)  : Fn Try.prog 115 #[v_x_e] w0 (fun v w' => Keep w0 w' ∧ O_27 w' w0.heap.size v (F_impl_copyEp x_e)) := by
  obtain ⟨a1, c2, a6, c7, rfl, r3, s4, r8, s9⟩ := r_x_e
  refine fn_of (n := 14) (l := [(.agg #[(.int .i64 x_e.N), (.slice a1 x_e.Key.length c2), (.int .i64 x_e.Seq), (.int .i64 x_e.Win.Top), (.slice a6 x_e.Win.Bits.length c7)]), undef, undef, undef, undef, undef, undef, undef, undef, undef, undef, undef, undef, undef]) Try.func115 rfl rfl (by kernel_rfl) rfl ?_
  refine wc_seq ?_
  refine wc_region ?_
  refine wl_box (want_none rfl) [(.int .i64 x_e.N), (.slice a1 x_e.Key.length c2), (.int .i64 x_e.Seq), (.int .i64 x_e.Win.Top), (.slice a6 x_e.Win.Bits.length c7)] rfl rfl rfl rfl ?_
  intro g11 w1 p12 p13 k14 b15
  have m16 := (Ch.base w0).extk k14
  refine wl_alloc (want_none rfl) (.agg #[(.int .i64 0), (.slice none 0 0), (.int .i64 0), (.int .i64 0), (.slice none 0 0)]) [(.int .i64 0), (.slice none 0 0), (.int .i64 0), (.int .i64 0), (.slice none 0 0)] zero_27 rfl rfl rfl rfl ?_
  intro g17 w2 p18 p19 k20 b21
  have m22 := m16.extk k20
  refine wl_nil ?_
  refine wq_then ?_
  refine wc_seq ?_
  refine wc_draw ([(3, [], [], (fun _ v _ => v = (.pointer (some ⟨g11, 0, none⟩)))), (4, [], [0], (fun _ v _ => v = (.int .i64 x_e.N))), (5, [], [], (fun _ v _ => v = (.pointer (some ⟨g11, 1, none⟩)))), (6, [], [2], (fun _ v _ => v = (.slice a1 x_e.Key.length c2))), (7, [], [2, 3], (fun _ v w => ∃ (a1 : Option Addr) (c1 : Nat), v = .slice a1 (F_impl_clone x_e.Key).length c1 ∧ w.ownsRow (w2.heap.size) 5 1 (.slice a1 (F_impl_clone x_e.Key).length c1) (F_impl_clone x_e.Key).length ((F_impl_clone x_e.Key).map bV) ∧ (F_impl_clone x_e.Key).length ≤ 1073741824 ∧ Aps [(a1, c1)])), (8, [], [], (fun _ v _ => v = (.pointer (some ⟨g11, 2, none⟩)))), (9, [], [5], (fun _ v _ => v = (.int .i64 x_e.Seq))), (10, [], [], (fun _ v _ => v = (.pointer (some ⟨g11, 3, none⟩)))), (11, [], [7], (fun _ v _ => v = (.agg #[(.int .i64 x_e.Win.Top), (.slice a6 x_e.Win.Bits.length c7)]))), (12, [7], [2, 3, 4, 7, 8], (fun e v w => ∃ (a1 : Option Addr) (c1 : Nat), v = .agg #[.int .i64 ((F_impl_copyWin x_e.Win).Top), .slice a1 ((F_impl_copyWin x_e.Win).Bits).length c1] ∧ w.ownsRow (w2.heap.size) 3 1 (.slice a1 ((F_impl_copyWin x_e.Win).Bits).length c1) ((F_impl_copyWin x_e.Win).Bits).length (((F_impl_copyWin x_e.Win).Bits).map iV) ∧ ((F_impl_copyWin x_e.Win).Bits).length ≤ 1073741824 ∧ Aps [(a1, c1)] ∧ Ap (sp (e 7)) (a1, c1))), (13, [7, 12], [0, 1, 2, 3, 4, 5, 6, 7, 8, 9], (fun e v _ => v = (.agg #[(.int .i64 x_e.N), (e 7), (.int .i64 x_e.Seq), (.int .i64 ((F_impl_copyWin x_e.Win).Top)), (cellAt (e 12) 1)])))] : GV) mixed rfl (by kernel_rfl) (by kernel_rfl) ?_ ?_ ?_
  · exact ⟨(fun _ _ _ _ h _ => h), (fun _ _ _ _ _ h => h), ⟨(fun _ _ _ _ h _ => h), (fun _ _ _ _ _ h => h), ⟨(fun _ _ _ _ h _ => h), (fun _ _ _ _ _ h => h), ⟨(fun _ _ _ _ h _ => h), (fun _ _ _ _ _ h => h), ⟨(fun e v w w1 h hk => by obtain ⟨a0x, c0x, he, o0x, l0x, hap⟩ := h; exact ⟨a0x, c0x, he, own_kp o0x hk, l0x, hap⟩), (fun _ _ _ _ _ h => h), ⟨(fun _ _ _ _ h _ => h), (fun _ _ _ _ _ h => h), ⟨(fun _ _ _ _ h _ => h), (fun _ _ _ _ _ h => h), ⟨(fun _ _ _ _ h _ => h), (fun _ _ _ _ _ h => h), ⟨(fun _ _ _ _ h _ => h), (fun _ _ _ _ _ h => h), ⟨(fun e v w w1 h hk => by obtain ⟨a0x, c0x, he, o0x, l0x, hap, hx⟩ := h; exact ⟨a0x, c0x, he, own_kp o0x hk, l0x, hap, hx⟩), (fun e1 e2 v w hx h => by have h7x := hx 7 (by simp); simp only [h7x] at h; exact h), ⟨(fun _ _ _ _ h _ => h), (fun e1 e2 v w hx h => by have h7x := hx 7 (by simp); have h12x := hx 12 (by simp); simp only [h7x, h12x] at h; exact h), trivial⟩⟩⟩⟩⟩⟩⟩⟩⟩⟩⟩
  · refine ⟨?_, ⟨?_, ⟨?_, ⟨?_, ⟨?_, ⟨?_, ⟨?_, ⟨?_, ⟨?_, ⟨?_, ⟨?_, trivial⟩⟩⟩⟩⟩⟩⟩⟩⟩⟩⟩
    · intro w3 k59
      have m60 := m22.extk k59
      intro u61
      intro u62
      intro u63
      intro u64
      intro u65
      intro u66
      intro u67
      intro u68
      intro u69
      intro u70
      intro u71
      show WL _ _ _ _ _ _ _
      refine wl_pure (.pointer (some ⟨g11, 0, none⟩)) (want_none rfl) rfl rfl (by kernel_rfl) ?_
      exact wl_fin (Ch.refl _ _) rfl
    · intro w3 k72
      have m73 := m22.extk k72
      rintro _ rfl
      intro u74
      intro u75
      intro u76
      intro u77
      intro u78
      intro u79
      intro u80
      intro u81
      intro u82
      intro u83
      show WL _ _ _ _ _ _ _
      have b84 := ((b15.kp k20).kp k72)
      refine wl_load1 (.int .i64 x_e.N) (want_none rfl) rfl rfl rfl rfl isAgg_3 b84 rfl ?_
      exact wl_fin (Ch.refl _ _) rfl
    · intro w3 k85
      have m86 := m22.extk k85
      intro u87
      intro u88
      intro u89
      intro u90
      intro u91
      intro u92
      intro u93
      intro u94
      intro u95
      intro u96
      intro u97
      show WL _ _ _ _ _ _ _
      refine wl_pure (.pointer (some ⟨g11, 1, none⟩)) (want_none rfl) rfl rfl (by kernel_rfl) ?_
      exact wl_fin (Ch.refl _ _) rfl
    · intro w3 k98
      have m99 := m22.extk k98
      intro u100
      intro u101
      rintro _ rfl
      intro u102
      intro u103
      intro u104
      intro u105
      intro u106
      intro u107
      intro u108
      intro u109
      show WL _ _ _ _ _ _ _
      have b110 := ((b15.kp k20).kp k98)
      refine wl_load1 (.slice a1 x_e.Key.length c2) (want_none rfl) rfl rfl rfl rfl isAgg_22 b110 rfl ?_
      exact wl_fin (Ch.refl _ _) rfl
    · intro w3 k111
      have m112 := m22.extk k111
      intro u113
      intro u114
      rintro _ rfl
      rintro _ rfl
      intro u116
      intro u117
      intro u118
      intro u119
      intro u120
      intro u121
      intro u122
      show WL _ _ _ _ _ _ _
      refine wl_call (want_none rfl) (args := #[(.slice a1 x_e.Key.length c2)]) rfl rfl (by kernel_rfl) (C_impl_clone w3 (.slice a1 x_e.Key.length c2) x_e.Key (show R_22 w3 (.slice a1 x_e.Key.length c2) x_e.Key from ⟨_, _, rfl, (r3.from0 m112), s4⟩)) ?_
      rintro _ w4 ⟨k123, ⟨a124, c125, rfl, o126, s127, ap129⟩⟩
      have m130 := m112.extk k123
      exact wl_fin k123 ⟨_, _, rfl, (own_lo o126 k111.size), s127, ap129⟩
    · intro w3 k131
      have m132 := m22.extk k131
      intro u133
      intro u134
      intro u135
      intro u136
      intro u137
      intro u138
      intro u139
      intro u140
      intro u141
      intro u142
      intro u143
      show WL _ _ _ _ _ _ _
      refine wl_pure (.pointer (some ⟨g11, 2, none⟩)) (want_none rfl) rfl rfl (by kernel_rfl) ?_
      exact wl_fin (Ch.refl _ _) rfl
    · intro w3 k144
      have m145 := m22.extk k144
      intro u146
      intro u147
      intro u148
      intro u149
      intro u150
      rintro _ rfl
      intro u151
      intro u152
      intro u153
      intro u154
      intro u155
      show WL _ _ _ _ _ _ _
      have b156 := ((b15.kp k20).kp k144)
      refine wl_load1 (.int .i64 x_e.Seq) (want_none rfl) rfl rfl rfl rfl isAgg_3 b156 rfl ?_
      exact wl_fin (Ch.refl _ _) rfl
    · intro w3 k157
      have m158 := m22.extk k157
      intro u159
      intro u160
      intro u161
      intro u162
      intro u163
      intro u164
      intro u165
      intro u166
      intro u167
      intro u168
      intro u169
      show WL _ _ _ _ _ _ _
      refine wl_pure (.pointer (some ⟨g11, 3, none⟩)) (want_none rfl) rfl rfl (by kernel_rfl) ?_
      exact wl_fin (Ch.refl _ _) rfl
    · intro w3 k170
      have m171 := m22.extk k170
      intro u172
      intro u173
      intro u174
      intro u175
      intro u176
      intro u177
      intro u178
      rintro _ rfl
      intro u179
      intro u180
      intro u181
      show WL _ _ _ _ _ _ _
      have b182 := ((b15.kp k20).kp k170)
      refine wl_loadN [(.int .i64 x_e.Win.Top), (.slice a6 x_e.Win.Bits.length c7)] (want_none rfl) rfl rfl rfl rfl isAgg_25 sizeOf_25 b182 rfl ?_
      exact wl_fin (Ch.refl _ _) rfl
    · intro w3 k183
      have m184 := m22.extk k183
      intro u185
      intro u186
      rintro _ rfl
      rintro _ rfl
      rintro _ ⟨a188, c189, rfl, o190, s191, ap193⟩
      intro u194
      intro u195
      rintro _ rfl
      rintro _ rfl
      intro u197
      intro u198
      show WL _ _ _ _ _ _ _
      refine wl_call (want_none rfl) (args := #[(.agg #[(.int .i64 x_e.Win.Top), (.slice a6 x_e.Win.Bits.length c7)])]) rfl rfl (by kernel_rfl) (C_impl_copyWin w3 (.agg #[(.int .i64 x_e.Win.Top), (.slice a6 x_e.Win.Bits.length c7)]) x_e.Win (show R_25 w3 (.agg #[(.int .i64 x_e.Win.Top), (.slice a6 x_e.Win.Bits.length c7)]) x_e.Win from ⟨_, _, rfl, (r8.from0 m184), s9⟩)) ?_
      rintro _ w4 ⟨k199, ⟨a200, c201, rfl, o202, s203, ap205⟩⟩
      have m206 := m184.extk k199
      exact wl_fin k199 ⟨_, _, rfl, (own_lo o202 k183.size), s203, ap205, (Ap.lt o190 o202 (Nat.le_refl _))⟩
    · intro w3 k207
      have m208 := m22.extk k207
      rintro _ rfl
      rintro _ rfl
      rintro _ rfl
      rintro _ rfl
      rintro _ ⟨a211, c212, rfl, o213, s214, ap216⟩
      rintro _ rfl
      rintro _ rfl
      rintro _ rfl
      rintro _ rfl
      rintro _ ⟨a219, c220, rfl, o221, s222, ap224, hx225⟩
      intro u226
      show WL _ _ _ _ _ _ _
      refine wl_pure (.agg #[(.int .i64 x_e.N), (.slice a211 (F_impl_clone x_e.Key).length c212), (.int .i64 x_e.Seq), (.int .i64 ((F_impl_copyWin x_e.Win).Top)), (.slice a219 ((F_impl_copyWin x_e.Win).Bits).length c220)]) (want_none rfl) rfl rfl (by kernel_rfl) ?_
      exact wl_fin (Ch.refl _ _) rfl
  · intro w3 k227
    have m228 := m22.extk k227
    rintro _ rfl
    rintro _ rfl
    rintro _ rfl
    rintro _ rfl
    rintro _ ⟨a231, c232, rfl, o233, s234, ap236⟩
    rintro _ rfl
    rintro _ rfl
    rintro _ rfl
    rintro _ rfl
    rintro _ ⟨a239, c240, rfl, o241, s242, ap244, hx245⟩
    rintro _ rfl
    show WL _ _ _ _ _ _ _
    have b246 := (b21.kp k227)
    refine wl_store (.agg #[(.int .i64 x_e.N), (.slice a231 (F_impl_clone x_e.Key).length c232), (.int .i64 x_e.Seq), (.int .i64 ((F_impl_copyWin x_e.Win).Top)), (.slice a239 ((F_impl_copyWin x_e.Win).Bits).length c240)]) [(.int .i64 x_e.N), (.slice a231 (F_impl_clone x_e.Key).length c232), (.int .i64 x_e.Seq), (.int .i64 ((F_impl_copyWin x_e.Win).Top)), (.slice a239 ((F_impl_copyWin x_e.Win).Bits).length c240)] [(.int .i64 x_e.N), (.slice a231 (F_impl_clone x_e.Key).length c232), (.int .i64 x_e.Seq), (.int .i64 ((F_impl_copyWin x_e.Win).Top)), (.slice a239 ((F_impl_copyWin x_e.Win).Bits).length c240)] (want_none rfl) rfl rfl rfl rfl rfl (one_cons rfl (one_cons rfl (one_cons rfl (one_cons rfl (one_cons rfl one_nil))))) sizeOf_27 b246 rfl rfl ?_
    intro w4 k247 b248 z249
    have m250 := m228.ext k247 (fun k hk => by subst hk; exact Nat.le_trans k14.size p18)
    refine wl_nil ?_
    refine wq_then ?_
    refine wc_ret ?_
    have o251 := (own_ch o233 k247 (fun g hg hlt hk => by have h1 := (own_lt o233 g hg).1; have h2 := Nat.lt_of_lt_of_le p19 (Nat.le_refl _); omega))
    have o252 := (own_ch o241 k247 (fun g hg hlt hk => by have h1 := (own_lt o241 g hg).1; have h2 := Nat.lt_of_lt_of_le p19 (Nat.le_refl _); omega))
    refine ret_1 (.inl rfl) (.agg #[(.int .i64 x_e.N), (.slice a231 (F_impl_clone x_e.Key).length c232), (.int .i64 x_e.Seq), (.int .i64 ((F_impl_copyWin x_e.Win).Top)), (.slice a239 ((F_impl_copyWin x_e.Win).Bits).length c240)]) rfl (rv_c [(.int .i64 x_e.N), (.slice a231 (F_impl_clone x_e.Key).length c232), (.int .i64 x_e.Seq), (.int .i64 ((F_impl_copyWin x_e.Win).Top)), (.slice a239 ((F_impl_copyWin x_e.Win).Bits).length c240)] rfl b248 isAgg_27 sizeOf_27) ?_
    refine ⟨m250.keep0, ?_⟩
    have hF253 : F_impl_copyEp x_e = { N := x_e.N, Key := (F_impl_clone x_e.Key), Seq := x_e.Seq, Win := (F_impl_copyWin x_e.Win) : PEp } := by rfl
    rw [hF253]
    exact ⟨_, _, _, _, rfl, (own_lo o251 (Nat.le_trans k14.size k20.size)), s234, (own_lo o252 (Nat.le_trans k14.size k20.size)), s242, ⟨⟨hx245, trivial⟩, ⟨trivial, trivial⟩⟩⟩

def F_impl_copyChan (x_c : PChan) : (PChan) := { Role := x_c.Role, Sn := (F_impl_clone x_c.Sn), Cur := (F_impl_copyEp x_c.Cur), Old := (F_impl_copyEp x_c.Old), HasOld := x_c.HasOld, Until := x_c.Until, Next := (F_impl_clone x_c.Next) : PChan }
theorem C_impl_copyChan (w0 : World) (v_x_c : Value) (x_c : PChan) (r_x_c : R_29 w0 v_x_c x_c)  : Fn Try.prog 82 #[v_x_c] w0 (fun v w' => Keep w0 w' ∧ O_29 w' w0.heap.size v (F_impl_copyChan x_c)) := by
  obtain ⟨a1, c2, a6, c7, a11, c12, a16, c17, a21, c22, a26, c27, rfl, r3, s4, r8, s9, r13, s14, r18, s19, r23, s24, r28, s29⟩ := r_x_c
  refine fn_of (n := 20) (l := [(.agg #[(.int .i64 x_c.Role), (.slice a1 x_c.Sn.length c2), (.int .i64 x_c.Cur.N), (.slice a6 x_c.Cur.Key.length c7), (.int .i64 x_c.Cur.Seq), (.int .i64 x_c.Cur.Win.Top), (.slice a11 x_c.Cur.Win.Bits.length c12), (.int .i64 x_c.Old.N), (.slice a16 x_c.Old.Key.length c17), (.int .i64 x_c.Old.Seq), (.int .i64 x_c.Old.Win.Top), (.slice a21 x_c.Old.Win.Bits.length c22), (.bool x_c.HasOld), (.int .i64 x_c.Until), (.slice a26 x_c.Next.length c27)]), undef, undef, undef, undef, undef, undef, undef, undef, undef, undef, undef, undef, undef, undef, undef, undef, undef, undef, undef]) Try.func82 rfl rfl (by kernel_rfl) rfl ?_
  refine wc_seq ?_
  refine wc_region ?_
  refine wl_box (want_none rfl) [(.int .i64 x_c.Role), (.slice a1 x_c.Sn.length c2), (.int .i64 x_c.Cur.N), (.slice a6 x_c.Cur.Key.length c7), (.int .i64 x_c.Cur.Seq), (.int .i64 x_c.Cur.Win.Top), (.slice a11 x_c.Cur.Win.Bits.length c12), (.int .i64 x_c.Old.N), (.slice a16 x_c.Old.Key.length c17), (.int .i64 x_c.Old.Seq), (.int .i64 x_c.Old.Win.Top), (.slice a21 x_c.Old.Win.Bits.length c22), (.bool x_c.HasOld), (.int .i64 x_c.Until), (.slice a26 x_c.Next.length c27)] rfl rfl rfl rfl ?_
  intro g31 w1 p32 p33 k34 b35
  have m36 := (Ch.base w0).extk k34
  refine wl_alloc (want_none rfl) (.agg #[(.int .i64 0), (.slice none 0 0), (.int .i64 0), (.slice none 0 0), (.int .i64 0), (.int .i64 0), (.slice none 0 0), (.int .i64 0), (.slice none 0 0), (.int .i64 0), (.int .i64 0), (.slice none 0 0), (.bool false), (.int .i64 0), (.slice none 0 0)]) [(.int .i64 0), (.slice none 0 0), (.int .i64 0), (.slice none 0 0), (.int .i64 0), (.int .i64 0), (.slice none 0 0), (.int .i64 0), (.slice none 0 0), (.int .i64 0), (.int .i64 0), (.slice none 0 0), (.bool false), (.int .i64 0), (.slice none 0 0)] zero_29 rfl rfl rfl rfl ?_
  intro g37 w2 p38 p39 k40 b41
  have m42 := m36.extk k40
  refine wl_nil ?_
  refine wq_then ?_
  refine wc_seq ?_
  refine wc_draw ([(3, [], [], (fun _ v _ => v = (.pointer (some ⟨g31, 1, none⟩)))), (4, [], [0], (fun _ v _ => v = (.slice a1 x_c.Sn.length c2))), (5, [], [0, 1], (fun _ v w => ∃ (a1 : Option Addr) (c1 : Nat), v = .slice a1 (F_impl_clone x_c.Sn).length c1 ∧ w.ownsRow (w2.heap.size) 5 1 (.slice a1 (F_impl_clone x_c.Sn).length c1) (F_impl_clone x_c.Sn).length ((F_impl_clone x_c.Sn).map bV) ∧ (F_impl_clone x_c.Sn).length ≤ 1073741824 ∧ Aps [(a1, c1)])), (6, [], [], (fun _ v _ => v = (.pointer (some ⟨g31, 14, none⟩)))), (7, [], [3], (fun _ v _ => v = (.slice a26 x_c.Next.length c27))), (8, [5], [0, 1, 2, 3, 4], (fun e v w => ∃ (a1 : Option Addr) (c1 : Nat), v = .slice a1 (F_impl_clone x_c.Next).length c1 ∧ w.ownsRow (w2.heap.size) 5 1 (.slice a1 (F_impl_clone x_c.Next).length c1) (F_impl_clone x_c.Next).length ((F_impl_clone x_c.Next).map bV) ∧ (F_impl_clone x_c.Next).length ≤ 1073741824 ∧ Aps [(a1, c1)] ∧ Ap (sp (e 5)) (a1, c1))), (9, [], [0, 1, 2, 3, 4], (fun _ v _ => v = (.pointer (some ⟨g31, 1, none⟩))))] : GV) mixed rfl (by kernel_rfl) (by kernel_rfl) ?_ ?_ ?_
  · exact ⟨(fun _ _ _ _ h _ => h), (fun _ _ _ _ _ h => h), ⟨(fun _ _ _ _ h _ => h), (fun _ _ _ _ _ h => h), ⟨(fun e v w w1 h hk => by obtain ⟨a0x, c0x, he, o0x, l0x, hap⟩ := h; exact ⟨a0x, c0x, he, own_kp o0x hk, l0x, hap⟩), (fun _ _ _ _ _ h => h), ⟨(fun _ _ _ _ h _ => h), (fun _ _ _ _ _ h => h), ⟨(fun _ _ _ _ h _ => h), (fun _ _ _ _ _ h => h), ⟨(fun e v w w1 h hk => by obtain ⟨a0x, c0x, he, o0x, l0x, hap, hx⟩ := h; exact ⟨a0x, c0x, he, own_kp o0x hk, l0x, hap, hx⟩), (fun e1 e2 v w hx h => by have h5x := hx 5 (by simp); simp only [h5x] at h; exact h), ⟨(fun _ _ _ _ h _ => h), (fun _ _ _ _ _ h => h), trivial⟩⟩⟩⟩⟩⟩⟩
  · refine ⟨?_, ⟨?_, ⟨?_, ⟨?_, ⟨?_, ⟨?_, ⟨?_, trivial⟩⟩⟩⟩⟩⟩⟩
    · intro w3 k83
      have m84 := m42.extk k83
      intro u85
      intro u86
      intro u87
      intro u88
      intro u89
      intro u90
      intro u91
      show WL _ _ _ _ _ _ _
      refine wl_pure (.pointer (some ⟨g31, 1, none⟩)) (want_none rfl) rfl rfl (by kernel_rfl) ?_
      exact wl_fin (Ch.refl _ _) rfl
    · intro w3 k92
      have m93 := m42.extk k92
      rintro _ rfl
      intro u94
      intro u95
      intro u96
      intro u97
      intro u98
      intro u99
      show WL _ _ _ _ _ _ _
      have b100 := ((b35.kp k40).kp k92)
      refine wl_load1 (.slice a1 x_c.Sn.length c2) (want_none rfl) rfl rfl rfl rfl isAgg_22 b100 rfl ?_
      exact wl_fin (Ch.refl _ _) rfl
    · intro w3 k101
      have m102 := m42.extk k101
      rintro _ rfl
      rintro _ rfl
      intro u104
      intro u105
      intro u106
      intro u107
      intro u108
      show WL _ _ _ _ _ _ _
      refine wl_call (want_none rfl) (args := #[(.slice a1 x_c.Sn.length c2)]) rfl rfl (by kernel_rfl) (C_impl_clone w3 (.slice a1 x_c.Sn.length c2) x_c.Sn (show R_22 w3 (.slice a1 x_c.Sn.length c2) x_c.Sn from ⟨_, _, rfl, (r3.from0 m102), s4⟩)) ?_
      rintro _ w4 ⟨k109, ⟨a110, c111, rfl, o112, s113, ap115⟩⟩
      have m116 := m102.extk k109
      exact wl_fin k109 ⟨_, _, rfl, (own_lo o112 k101.size), s113, ap115⟩
    · intro w3 k117
      have m118 := m42.extk k117
      intro u119
      intro u120
      intro u121
      intro u122
      intro u123
      intro u124
      intro u125
      show WL _ _ _ _ _ _ _
      refine wl_pure (.pointer (some ⟨g31, 14, none⟩)) (want_none rfl) rfl rfl (by kernel_rfl) ?_
      exact wl_fin (Ch.refl _ _) rfl
    · intro w3 k126
      have m127 := m42.extk k126
      intro u128
      intro u129
      intro u130
      rintro _ rfl
      intro u131
      intro u132
      intro u133
      show WL _ _ _ _ _ _ _
      have b134 := ((b35.kp k40).kp k126)
      refine wl_load1 (.slice a26 x_c.Next.length c27) (want_none rfl) rfl rfl rfl rfl isAgg_22 b134 rfl ?_
      exact wl_fin (Ch.refl _ _) rfl
    · intro w3 k135
      have m136 := m42.extk k135
      rintro _ rfl
      rintro _ rfl
      rintro _ ⟨a138, c139, rfl, o140, s141, ap143⟩
      rintro _ rfl
      rintro _ rfl
      intro u145
      intro u146
      show WL _ _ _ _ _ _ _
      refine wl_call (want_none rfl) (args := #[(.slice a26 x_c.Next.length c27)]) rfl rfl (by kernel_rfl) (C_impl_clone w3 (.slice a26 x_c.Next.length c27) x_c.Next (show R_22 w3 (.slice a26 x_c.Next.length c27) x_c.Next from ⟨_, _, rfl, (r28.from0 m136), s29⟩)) ?_
      rintro _ w4 ⟨k147, ⟨a148, c149, rfl, o150, s151, ap153⟩⟩
      have m154 := m136.extk k147
      exact wl_fin k147 ⟨_, _, rfl, (own_lo o150 k135.size), s151, ap153, (Ap.lt o140 o150 (Nat.le_refl _))⟩
    · intro w3 k155
      have m156 := m42.extk k155
      rintro _ rfl
      rintro _ rfl
      rintro _ ⟨a158, c159, rfl, o160, s161, ap163⟩
      rintro _ rfl
      rintro _ rfl
      intro u165
      intro u166
      show WL _ _ _ _ _ _ _
      refine wl_pure (.pointer (some ⟨g31, 1, none⟩)) (want_none rfl) rfl rfl (by kernel_rfl) ?_
      exact wl_fin (Ch.refl _ _) rfl
  · intro w3 k167
    have m168 := m42.extk k167
    rintro _ rfl
    rintro _ rfl
    rintro _ ⟨a170, c171, rfl, o172, s173, ap175⟩
    rintro _ rfl
    rintro _ rfl
    rintro _ ⟨a177, c178, rfl, o179, s180, ap182, hx183⟩
    rintro _ rfl
    show WL _ _ _ _ _ _ _
    have b184 := ((b35.kp k40).kp k167)
    refine wl_store (.slice a170 (F_impl_clone x_c.Sn).length c171) [(.slice a170 (F_impl_clone x_c.Sn).length c171)] [(.int .i64 x_c.Role), (.slice a170 (F_impl_clone x_c.Sn).length c171), (.int .i64 x_c.Cur.N), (.slice a6 x_c.Cur.Key.length c7), (.int .i64 x_c.Cur.Seq), (.int .i64 x_c.Cur.Win.Top), (.slice a11 x_c.Cur.Win.Bits.length c12), (.int .i64 x_c.Old.N), (.slice a16 x_c.Old.Key.length c17), (.int .i64 x_c.Old.Seq), (.int .i64 x_c.Old.Win.Top), (.slice a21 x_c.Old.Win.Bits.length c22), (.bool x_c.HasOld), (.int .i64 x_c.Until), (.slice a26 x_c.Next.length c27)] (want_none rfl) rfl rfl rfl rfl rfl (one_cons rfl one_nil) sizeOf_22 b184 rfl rfl ?_
    intro w4 k185 b186 z187
    have m188 := m168.ext k185 (fun k hk => by subst hk; exact Nat.le_trans (Nat.le_refl _) p32)
    refine wl_pure (.pointer (some ⟨g31, 14, none⟩)) (want_none rfl) rfl rfl (by kernel_rfl) ?_
    refine wl_store (.slice a177 (F_impl_clone x_c.Next).length c178) [(.slice a177 (F_impl_clone x_c.Next).length c178)] [(.int .i64 x_c.Role), (.slice a170 (F_impl_clone x_c.Sn).length c171), (.int .i64 x_c.Cur.N), (.slice a6 x_c.Cur.Key.length c7), (.int .i64 x_c.Cur.Seq), (.int .i64 x_c.Cur.Win.Top), (.slice a11 x_c.Cur.Win.Bits.length c12), (.int .i64 x_c.Old.N), (.slice a16 x_c.Old.Key.length c17), (.int .i64 x_c.Old.Seq), (.int .i64 x_c.Old.Win.Top), (.slice a21 x_c.Old.Win.Bits.length c22), (.bool x_c.HasOld), (.int .i64 x_c.Until), (.slice a177 (F_impl_clone x_c.Next).length c178)] (want_none rfl) rfl rfl rfl rfl rfl (one_cons rfl one_nil) sizeOf_22 b186 rfl rfl ?_
    intro w5 k189 b190 z191
    have m192 := m188.ext k189 (fun k hk => by subst hk; exact Nat.le_trans (Nat.le_refl _) p32)
    refine wl_nil ?_
    refine wq_then ?_
    refine wc_seq ?_
    refine wc_draw ([(11, [], [], (fun _ v _ => v = (.pointer (some ⟨g31, 2, none⟩)))), (12, [], [0], (fun _ v _ => v = (.agg #[(.int .i64 x_c.Cur.N), (.slice a6 x_c.Cur.Key.length c7), (.int .i64 x_c.Cur.Seq), (.int .i64 x_c.Cur.Win.Top), (.slice a11 x_c.Cur.Win.Bits.length c12)]))), (13, [], [0, 1], (fun _ v w => ∃ (a1 : Option Addr) (c1 : Nat) (a2 : Option Addr) (c2 : Nat), v = .agg #[.int .i64 ((F_impl_copyEp x_c.Cur).N), .slice a1 ((F_impl_copyEp x_c.Cur).Key).length c1, .int .i64 ((F_impl_copyEp x_c.Cur).Seq), .int .i64 (((F_impl_copyEp x_c.Cur).Win).Top), .slice a2 (((F_impl_copyEp x_c.Cur).Win).Bits).length c2] ∧ w.ownsRow (w5.heap.size) 5 1 (.slice a1 ((F_impl_copyEp x_c.Cur).Key).length c1) ((F_impl_copyEp x_c.Cur).Key).length (((F_impl_copyEp x_c.Cur).Key).map bV) ∧ ((F_impl_copyEp x_c.Cur).Key).length ≤ 1073741824 ∧ w.ownsRow (w5.heap.size) 3 1 (.slice a2 (((F_impl_copyEp x_c.Cur).Win).Bits).length c2) (((F_impl_copyEp x_c.Cur).Win).Bits).length ((((F_impl_copyEp x_c.Cur).Win).Bits).map iV) ∧ (((F_impl_copyEp x_c.Cur).Win).Bits).length ≤ 1073741824 ∧ Aps [(a1, c1), (a2, c2)])), (14, [], [], (fun _ v _ => v = (.pointer (some ⟨g31, 7, none⟩)))), (15, [], [3], (fun _ v _ => v = (.agg #[(.int .i64 x_c.Old.N), (.slice a16 x_c.Old.Key.length c17), (.int .i64 x_c.Old.Seq), (.int .i64 x_c.Old.Win.Top), (.slice a21 x_c.Old.Win.Bits.length c22)]))), (16, [13], [0, 1, 2, 3, 4], (fun e v w => ∃ (a1 : Option Addr) (c1 : Nat) (a2 : Option Addr) (c2 : Nat), v = .agg #[.int .i64 ((F_impl_copyEp x_c.Old).N), .slice a1 ((F_impl_copyEp x_c.Old).Key).length c1, .int .i64 ((F_impl_copyEp x_c.Old).Seq), .int .i64 (((F_impl_copyEp x_c.Old).Win).Top), .slice a2 (((F_impl_copyEp x_c.Old).Win).Bits).length c2] ∧ w.ownsRow (w5.heap.size) 5 1 (.slice a1 ((F_impl_copyEp x_c.Old).Key).length c1) ((F_impl_copyEp x_c.Old).Key).length (((F_impl_copyEp x_c.Old).Key).map bV) ∧ ((F_impl_copyEp x_c.Old).Key).length ≤ 1073741824 ∧ w.ownsRow (w5.heap.size) 3 1 (.slice a2 (((F_impl_copyEp x_c.Old).Win).Bits).length c2) (((F_impl_copyEp x_c.Old).Win).Bits).length ((((F_impl_copyEp x_c.Old).Win).Bits).map iV) ∧ (((F_impl_copyEp x_c.Old).Win).Bits).length ≤ 1073741824 ∧ Aps [(a1, c1), (a2, c2)] ∧ Ap (sp (cellAt (e 13) 1)) (a1, c1) ∧ Ap (sp (cellAt (e 13) 1)) (a2, c2) ∧ Ap (sp (cellAt (e 13) 4)) (a1, c1) ∧ Ap (sp (cellAt (e 13) 4)) (a2, c2))), (17, [], [0, 1, 2, 3, 4], (fun _ v _ => v = (.pointer (some ⟨g31, 2, none⟩))))] : GV) mixed rfl (by kernel_rfl) (by kernel_rfl) ?_ ?_ ?_
    · exact ⟨(fun _ _ _ _ h _ => h), (fun _ _ _ _ _ h => h), ⟨(fun _ _ _ _ h _ => h), (fun _ _ _ _ _ h => h), ⟨(fun e v w w1 h hk => by obtain ⟨a0x, c0x, a1x, c1x, he, o0x, l0x, o1x, l1x, hap⟩ := h; exact ⟨a0x, c0x, a1x, c1x, he, own_kp o0x hk, l0x, own_kp o1x hk, l1x, hap⟩), (fun _ _ _ _ _ h => h), ⟨(fun _ _ _ _ h _ => h), (fun _ _ _ _ _ h => h), ⟨(fun _ _ _ _ h _ => h), (fun _ _ _ _ _ h => h), ⟨(fun e v w w1 h hk => by obtain ⟨a0x, c0x, a1x, c1x, he, o0x, l0x, o1x, l1x, hap, hx⟩ := h; exact ⟨a0x, c0x, a1x, c1x, he, own_kp o0x hk, l0x, own_kp o1x hk, l1x, hap, hx⟩), (fun e1 e2 v w hx h => by have h13x := hx 13 (by simp); simp only [h13x] at h; exact h), ⟨(fun _ _ _ _ h _ => h), (fun _ _ _ _ _ h => h), trivial⟩⟩⟩⟩⟩⟩⟩
    · refine ⟨?_, ⟨?_, ⟨?_, ⟨?_, ⟨?_, ⟨?_, ⟨?_, trivial⟩⟩⟩⟩⟩⟩⟩
      · intro w6 k251
        have m252 := m192.extk k251
        intro u253
        intro u254
        intro u255
        intro u256
        intro u257
        intro u258
        intro u259
        show WL _ _ _ _ _ _ _
        refine wl_pure (.pointer (some ⟨g31, 2, none⟩)) (want_none rfl) rfl rfl (by kernel_rfl) ?_
        exact wl_fin (Ch.refl _ _) rfl
      · intro w6 k260
        have m261 := m192.extk k260
        rintro _ rfl
        intro u262
        intro u263
        intro u264
        intro u265
        intro u266
        intro u267
        show WL _ _ _ _ _ _ _
        have b268 := (b190.kp k260)
        refine wl_loadN [(.int .i64 x_c.Cur.N), (.slice a6 x_c.Cur.Key.length c7), (.int .i64 x_c.Cur.Seq), (.int .i64 x_c.Cur.Win.Top), (.slice a11 x_c.Cur.Win.Bits.length c12)] (want_none rfl) rfl rfl rfl rfl isAgg_27 sizeOf_27 b268 rfl ?_
        exact wl_fin (Ch.refl _ _) rfl
      · intro w6 k269
        have m270 := m192.extk k269
        rintro _ rfl
        rintro _ rfl
        intro u272
        intro u273
        intro u274
        intro u275
        intro u276
        show WL _ _ _ _ _ _ _
        refine wl_call (want_none rfl) (args := #[(.agg #[(.int .i64 x_c.Cur.N), (.slice a6 x_c.Cur.Key.length c7), (.int .i64 x_c.Cur.Seq), (.int .i64 x_c.Cur.Win.Top), (.slice a11 x_c.Cur.Win.Bits.length c12)])]) rfl rfl (by kernel_rfl) (C_impl_copyEp w6 (.agg #[(.int .i64 x_c.Cur.N), (.slice a6 x_c.Cur.Key.length c7), (.int .i64 x_c.Cur.Seq), (.int .i64 x_c.Cur.Win.Top), (.slice a11 x_c.Cur.Win.Bits.length c12)]) x_c.Cur (show R_27 w6 (.agg #[(.int .i64 x_c.Cur.N), (.slice a6 x_c.Cur.Key.length c7), (.int .i64 x_c.Cur.Seq), (.int .i64 x_c.Cur.Win.Top), (.slice a11 x_c.Cur.Win.Bits.length c12)]) x_c.Cur from ⟨_, _, _, _, rfl, (r8.from0 m270), s9, (r13.from0 m270), s14⟩)) ?_
        rintro _ w7 ⟨k277, ⟨a278, c279, a283, c284, rfl, o280, s281, o285, s286, ap288⟩⟩
        have m289 := m270.extk k277
        exact wl_fin k277 ⟨_, _, _, _, rfl, (own_lo o280 k269.size), s281, (own_lo o285 k269.size), s286, ap288⟩
      · intro w6 k290
        have m291 := m192.extk k290
        intro u292
        intro u293
        intro u294
        intro u295
        intro u296
        intro u297
        intro u298
        show WL _ _ _ _ _ _ _
        refine wl_pure (.pointer (some ⟨g31, 7, none⟩)) (want_none rfl) rfl rfl (by kernel_rfl) ?_
        exact wl_fin (Ch.refl _ _) rfl
      · intro w6 k299
        have m300 := m192.extk k299
        intro u301
        intro u302
        intro u303
        rintro _ rfl
        intro u304
        intro u305
        intro u306
        show WL _ _ _ _ _ _ _
        have b307 := (b190.kp k299)
        refine wl_loadN [(.int .i64 x_c.Old.N), (.slice a16 x_c.Old.Key.length c17), (.int .i64 x_c.Old.Seq), (.int .i64 x_c.Old.Win.Top), (.slice a21 x_c.Old.Win.Bits.length c22)] (want_none rfl) rfl rfl rfl rfl isAgg_27 sizeOf_27 b307 rfl ?_
        exact wl_fin (Ch.refl _ _) rfl
      · intro w6 k308
        have m309 := m192.extk k308
        rintro _ rfl
        rintro _ rfl
        rintro _ ⟨a311, c312, a316, c317, rfl, o313, s314, o318, s319, ap321⟩
        rintro _ rfl
        rintro _ rfl
        intro u323
        intro u324
        show WL _ _ _ _ _ _ _
        refine wl_call (want_none rfl) (args := #[(.agg #[(.int .i64 x_c.Old.N), (.slice a16 x_c.Old.Key.length c17), (.int .i64 x_c.Old.Seq), (.int .i64 x_c.Old.Win.Top), (.slice a21 x_c.Old.Win.Bits.length c22)])]) rfl rfl (by kernel_rfl) (C_impl_copyEp w6 (.agg #[(.int .i64 x_c.Old.N), (.slice a16 x_c.Old.Key.length c17), (.int .i64 x_c.Old.Seq), (.int .i64 x_c.Old.Win.Top), (.slice a21 x_c.Old.Win.Bits.length c22)]) x_c.Old (show R_27 w6 (.agg #[(.int .i64 x_c.Old.N), (.slice a16 x_c.Old.Key.length c17), (.int .i64 x_c.Old.Seq), (.int .i64 x_c.Old.Win.Top), (.slice a21 x_c.Old.Win.Bits.length c22)]) x_c.Old from ⟨_, _, _, _, rfl, (r18.from0 m309), s19, (r23.from0 m309), s24⟩)) ?_
        rintro _ w7 ⟨k325, ⟨a326, c327, a331, c332, rfl, o328, s329, o333, s334, ap336⟩⟩
        have m337 := m309.extk k325
        exact wl_fin k325 ⟨_, _, _, _, rfl, (own_lo o328 k308.size), s329, (own_lo o333 k308.size), s334, ap336, ⟨(Ap.lt o313 o328 (Nat.le_refl _)), (Ap.lt o313 o333 (Nat.le_refl _)), (Ap.lt o318 o328 (Nat.le_refl _)), (Ap.lt o318 o333 (Nat.le_refl _))⟩⟩
      · intro w6 k338
        have m339 := m192.extk k338
        rintro _ rfl
        rintro _ rfl
        rintro _ ⟨a341, c342, a346, c347, rfl, o343, s344, o348, s349, ap351⟩
        rintro _ rfl
        rintro _ rfl
        intro u353
        intro u354
        show WL _ _ _ _ _ _ _
        refine wl_pure (.pointer (some ⟨g31, 2, none⟩)) (want_none rfl) rfl rfl (by kernel_rfl) ?_
        exact wl_fin (Ch.refl _ _) rfl
    · intro w6 k355
      have m356 := m192.extk k355
      rintro _ rfl
      rintro _ rfl
      rintro _ ⟨a358, c359, a363, c364, rfl, o360, s361, o365, s366, ap368⟩
      rintro _ rfl
      rintro _ rfl
      rintro _ ⟨a370, c371, a375, c376, rfl, o372, s373, o377, s378, ap380, hx381⟩
      rintro _ rfl
      show WL _ _ _ _ _ _ _
      have b382 := (b190.kp k355)
      refine wl_store (.agg #[(.int .i64 ((F_impl_copyEp x_c.Cur).N)), (.slice a358 ((F_impl_copyEp x_c.Cur).Key).length c359), (.int .i64 ((F_impl_copyEp x_c.Cur).Seq)), (.int .i64 (((F_impl_copyEp x_c.Cur).Win).Top)), (.slice a363 (((F_impl_copyEp x_c.Cur).Win).Bits).length c364)]) [(.int .i64 ((F_impl_copyEp x_c.Cur).N)), (.slice a358 ((F_impl_copyEp x_c.Cur).Key).length c359), (.int .i64 ((F_impl_copyEp x_c.Cur).Seq)), (.int .i64 (((F_impl_copyEp x_c.Cur).Win).Top)), (.slice a363 (((F_impl_copyEp x_c.Cur).Win).Bits).length c364)] [(.int .i64 x_c.Role), (.slice a170 (F_impl_clone x_c.Sn).length c171), (.int .i64 ((F_impl_copyEp x_c.Cur).N)), (.slice a358 ((F_impl_copyEp x_c.Cur).Key).length c359), (.int .i64 ((F_impl_copyEp x_c.Cur).Seq)), (.int .i64 (((F_impl_copyEp x_c.Cur).Win).Top)), (.slice a363 (((F_impl_copyEp x_c.Cur).Win).Bits).length c364), (.int .i64 x_c.Old.N), (.slice a16 x_c.Old.Key.length c17), (.int .i64 x_c.Old.Seq), (.int .i64 x_c.Old.Win.Top), (.slice a21 x_c.Old.Win.Bits.length c22), (.bool x_c.HasOld), (.int .i64 x_c.Until), (.slice a177 (F_impl_clone x_c.Next).length c178)] (want_none rfl) rfl rfl rfl rfl rfl (one_cons rfl (one_cons rfl (one_cons rfl (one_cons rfl (one_cons rfl one_nil))))) sizeOf_27 b382 rfl rfl ?_
      intro w7 k383 b384 z385
      have m386 := m356.ext k383 (fun k hk => by subst hk; exact Nat.le_trans (Nat.le_refl _) p32)
      refine wl_pure (.pointer (some ⟨g31, 7, none⟩)) (want_none rfl) rfl rfl (by kernel_rfl) ?_
      refine wl_store (.agg #[(.int .i64 ((F_impl_copyEp x_c.Old).N)), (.slice a370 ((F_impl_copyEp x_c.Old).Key).length c371), (.int .i64 ((F_impl_copyEp x_c.Old).Seq)), (.int .i64 (((F_impl_copyEp x_c.Old).Win).Top)), (.slice a375 (((F_impl_copyEp x_c.Old).Win).Bits).length c376)]) [(.int .i64 ((F_impl_copyEp x_c.Old).N)), (.slice a370 ((F_impl_copyEp x_c.Old).Key).length c371), (.int .i64 ((F_impl_copyEp x_c.Old).Seq)), (.int .i64 (((F_impl_copyEp x_c.Old).Win).Top)), (.slice a375 (((F_impl_copyEp x_c.Old).Win).Bits).length c376)] [(.int .i64 x_c.Role), (.slice a170 (F_impl_clone x_c.Sn).length c171), (.int .i64 ((F_impl_copyEp x_c.Cur).N)), (.slice a358 ((F_impl_copyEp x_c.Cur).Key).length c359), (.int .i64 ((F_impl_copyEp x_c.Cur).Seq)), (.int .i64 (((F_impl_copyEp x_c.Cur).Win).Top)), (.slice a363 (((F_impl_copyEp x_c.Cur).Win).Bits).length c364), (.int .i64 ((F_impl_copyEp x_c.Old).N)), (.slice a370 ((F_impl_copyEp x_c.Old).Key).length c371), (.int .i64 ((F_impl_copyEp x_c.Old).Seq)), (.int .i64 (((F_impl_copyEp x_c.Old).Win).Top)), (.slice a375 (((F_impl_copyEp x_c.Old).Win).Bits).length c376), (.bool x_c.HasOld), (.int .i64 x_c.Until), (.slice a177 (F_impl_clone x_c.Next).length c178)] (want_none rfl) rfl rfl rfl rfl rfl (one_cons rfl (one_cons rfl (one_cons rfl (one_cons rfl (one_cons rfl one_nil))))) sizeOf_27 b384 rfl rfl ?_
      intro w8 k387 b388 z389
      have m390 := m386.ext k387 (fun k hk => by subst hk; exact Nat.le_trans (Nat.le_refl _) p32)
      refine wl_nil ?_
      refine wq_then ?_
      refine wc_seq ?_
      refine wc_region ?_
      refine wl_loadN [(.int .i64 x_c.Role), (.slice a170 (F_impl_clone x_c.Sn).length c171), (.int .i64 ((F_impl_copyEp x_c.Cur).N)), (.slice a358 ((F_impl_copyEp x_c.Cur).Key).length c359), (.int .i64 ((F_impl_copyEp x_c.Cur).Seq)), (.int .i64 (((F_impl_copyEp x_c.Cur).Win).Top)), (.slice a363 (((F_impl_copyEp x_c.Cur).Win).Bits).length c364), (.int .i64 ((F_impl_copyEp x_c.Old).N)), (.slice a370 ((F_impl_copyEp x_c.Old).Key).length c371), (.int .i64 ((F_impl_copyEp x_c.Old).Seq)), (.int .i64 (((F_impl_copyEp x_c.Old).Win).Top)), (.slice a375 (((F_impl_copyEp x_c.Old).Win).Bits).length c376), (.bool x_c.HasOld), (.int .i64 x_c.Until), (.slice a177 (F_impl_clone x_c.Next).length c178)] (want_none rfl) rfl rfl rfl rfl isAgg_29 sizeOf_29 b388 rfl ?_
      have b391 := ((((((b41.kp k167).ch k185 (Ne.symm (Nat.ne_of_lt (Nat.lt_of_lt_of_le p33 (Nat.le_trans (Nat.le_refl _) p38))))).ch k189 (Ne.symm (Nat.ne_of_lt (Nat.lt_of_lt_of_le p33 (Nat.le_trans (Nat.le_refl _) p38))))).kp k355).ch k383 (Ne.symm (Nat.ne_of_lt (Nat.lt_of_lt_of_le p33 (Nat.le_trans (Nat.le_refl _) p38))))).ch k387 (Ne.symm (Nat.ne_of_lt (Nat.lt_of_lt_of_le p33 (Nat.le_trans (Nat.le_refl _) p38)))))
      refine wl_store (.agg #[(.int .i64 x_c.Role), (.slice a170 (F_impl_clone x_c.Sn).length c171), (.int .i64 ((F_impl_copyEp x_c.Cur).N)), (.slice a358 ((F_impl_copyEp x_c.Cur).Key).length c359), (.int .i64 ((F_impl_copyEp x_c.Cur).Seq)), (.int .i64 (((F_impl_copyEp x_c.Cur).Win).Top)), (.slice a363 (((F_impl_copyEp x_c.Cur).Win).Bits).length c364), (.int .i64 ((F_impl_copyEp x_c.Old).N)), (.slice a370 ((F_impl_copyEp x_c.Old).Key).length c371), (.int .i64 ((F_impl_copyEp x_c.Old).Seq)), (.int .i64 (((F_impl_copyEp x_c.Old).Win).Top)), (.slice a375 (((F_impl_copyEp x_c.Old).Win).Bits).length c376), (.bool x_c.HasOld), (.int .i64 x_c.Until), (.slice a177 (F_impl_clone x_c.Next).length c178)]) [(.int .i64 x_c.Role), (.slice a170 (F_impl_clone x_c.Sn).length c171), (.int .i64 ((F_impl_copyEp x_c.Cur).N)), (.slice a358 ((F_impl_copyEp x_c.Cur).Key).length c359), (.int .i64 ((F_impl_copyEp x_c.Cur).Seq)), (.int .i64 (((F_impl_copyEp x_c.Cur).Win).Top)), (.slice a363 (((F_impl_copyEp x_c.Cur).Win).Bits).length c364), (.int .i64 ((F_impl_copyEp x_c.Old).N)), (.slice a370 ((F_impl_copyEp x_c.Old).Key).length c371), (.int .i64 ((F_impl_copyEp x_c.Old).Seq)), (.int .i64 (((F_impl_copyEp x_c.Old).Win).Top)), (.slice a375 (((F_impl_copyEp x_c.Old).Win).Bits).length c376), (.bool x_c.HasOld), (.int .i64 x_c.Until), (.slice a177 (F_impl_clone x_c.Next).length c178)] [(.int .i64 x_c.Role), (.slice a170 (F_impl_clone x_c.Sn).length c171), (.int .i64 ((F_impl_copyEp x_c.Cur).N)), (.slice a358 ((F_impl_copyEp x_c.Cur).Key).length c359), (.int .i64 ((F_impl_copyEp x_c.Cur).Seq)), (.int .i64 (((F_impl_copyEp x_c.Cur).Win).Top)), (.slice a363 (((F_impl_copyEp x_c.Cur).Win).Bits).length c364), (.int .i64 ((F_impl_copyEp x_c.Old).N)), (.slice a370 ((F_impl_copyEp x_c.Old).Key).length c371), (.int .i64 ((F_impl_copyEp x_c.Old).Seq)), (.int .i64 (((F_impl_copyEp x_c.Old).Win).Top)), (.slice a375 (((F_impl_copyEp x_c.Old).Win).Bits).length c376), (.bool x_c.HasOld), (.int .i64 x_c.Until), (.slice a177 (F_impl_clone x_c.Next).length c178)] (want_none rfl) rfl rfl rfl rfl rfl (one_cons rfl (one_cons rfl (one_cons rfl (one_cons rfl (one_cons rfl (one_cons rfl (one_cons rfl (one_cons rfl (one_cons rfl (one_cons rfl (one_cons rfl (one_cons rfl (one_cons rfl (one_cons rfl (one_cons rfl one_nil))))))))))))))) sizeOf_29 b391 rfl rfl ?_
      intro w9 k392 b393 z394
      have m395 := m390.ext k392 (fun k hk => by subst hk; exact Nat.le_trans k34.size p38)
      refine wl_nil ?_
      refine wq_then ?_
      refine wc_ret ?_
      have o396 := (own_ch (own_ch (own_ch (own_kp (own_ch (own_ch o172 k185 (fun g hg hlt hk => by have h1 := (own_lt o172 g hg).1; have h2 := Nat.lt_of_lt_of_le p33 k40.size; omega)) k189 (fun g hg hlt hk => by have h1 := (own_lt o172 g hg).1; have h2 := Nat.lt_of_lt_of_le p33 k40.size; omega)) k355) k383 (fun g hg hlt hk => by have h1 := (own_lt o172 g hg).1; have h2 := Nat.lt_of_lt_of_le p33 k40.size; omega)) k387 (fun g hg hlt hk => by have h1 := (own_lt o172 g hg).1; have h2 := Nat.lt_of_lt_of_le p33 k40.size; omega)) k392 (fun g hg hlt hk => by have h1 := (own_lt o172 g hg).1; have h2 := Nat.lt_of_lt_of_le p39 (Nat.le_refl _); omega))
      have o397 := (own_ch (own_ch (own_ch o360 k383 (fun g hg hlt hk => by have h1 := (own_lt o360 g hg).1; have h2 := Nat.lt_of_lt_of_le p33 (Nat.le_trans (Nat.le_trans (Nat.le_trans k40.size k167.size) k185.size) k189.size); omega)) k387 (fun g hg hlt hk => by have h1 := (own_lt o360 g hg).1; have h2 := Nat.lt_of_lt_of_le p33 (Nat.le_trans (Nat.le_trans (Nat.le_trans k40.size k167.size) k185.size) k189.size); omega)) k392 (fun g hg hlt hk => by have h1 := (own_lt o360 g hg).1; have h2 := Nat.lt_of_lt_of_le p39 (Nat.le_trans (Nat.le_trans k167.size k185.size) k189.size); omega))
      have o398 := (own_ch (own_ch (own_ch o365 k383 (fun g hg hlt hk => by have h1 := (own_lt o365 g hg).1; have h2 := Nat.lt_of_lt_of_le p33 (Nat.le_trans (Nat.le_trans (Nat.le_trans k40.size k167.size) k185.size) k189.size); omega)) k387 (fun g hg hlt hk => by have h1 := (own_lt o365 g hg).1; have h2 := Nat.lt_of_lt_of_le p33 (Nat.le_trans (Nat.le_trans (Nat.le_trans k40.size k167.size) k185.size) k189.size); omega)) k392 (fun g hg hlt hk => by have h1 := (own_lt o365 g hg).1; have h2 := Nat.lt_of_lt_of_le p39 (Nat.le_trans (Nat.le_trans k167.size k185.size) k189.size); omega))
      have o399 := (own_ch (own_ch (own_ch o372 k383 (fun g hg hlt hk => by have h1 := (own_lt o372 g hg).1; have h2 := Nat.lt_of_lt_of_le p33 (Nat.le_trans (Nat.le_trans (Nat.le_trans k40.size k167.size) k185.size) k189.size); omega)) k387 (fun g hg hlt hk => by have h1 := (own_lt o372 g hg).1; have h2 := Nat.lt_of_lt_of_le p33 (Nat.le_trans (Nat.le_trans (Nat.le_trans k40.size k167.size) k185.size) k189.size); omega)) k392 (fun g hg hlt hk => by have h1 := (own_lt o372 g hg).1; have h2 := Nat.lt_of_lt_of_le p39 (Nat.le_trans (Nat.le_trans k167.size k185.size) k189.size); omega))
      have o400 := (own_ch (own_ch (own_ch o377 k383 (fun g hg hlt hk => by have h1 := (own_lt o377 g hg).1; have h2 := Nat.lt_of_lt_of_le p33 (Nat.le_trans (Nat.le_trans (Nat.le_trans k40.size k167.size) k185.size) k189.size); omega)) k387 (fun g hg hlt hk => by have h1 := (own_lt o377 g hg).1; have h2 := Nat.lt_of_lt_of_le p33 (Nat.le_trans (Nat.le_trans (Nat.le_trans k40.size k167.size) k185.size) k189.size); omega)) k392 (fun g hg hlt hk => by have h1 := (own_lt o377 g hg).1; have h2 := Nat.lt_of_lt_of_le p39 (Nat.le_trans (Nat.le_trans k167.size k185.size) k189.size); omega))
      have o401 := (own_ch (own_ch (own_ch (own_kp (own_ch (own_ch o179 k185 (fun g hg hlt hk => by have h1 := (own_lt o179 g hg).1; have h2 := Nat.lt_of_lt_of_le p33 k40.size; omega)) k189 (fun g hg hlt hk => by have h1 := (own_lt o179 g hg).1; have h2 := Nat.lt_of_lt_of_le p33 k40.size; omega)) k355) k383 (fun g hg hlt hk => by have h1 := (own_lt o179 g hg).1; have h2 := Nat.lt_of_lt_of_le p33 k40.size; omega)) k387 (fun g hg hlt hk => by have h1 := (own_lt o179 g hg).1; have h2 := Nat.lt_of_lt_of_le p33 k40.size; omega)) k392 (fun g hg hlt hk => by have h1 := (own_lt o179 g hg).1; have h2 := Nat.lt_of_lt_of_le p39 (Nat.le_refl _); omega))
      refine ret_1 (.inl rfl) (.agg #[(.int .i64 x_c.Role), (.slice a170 (F_impl_clone x_c.Sn).length c171), (.int .i64 ((F_impl_copyEp x_c.Cur).N)), (.slice a358 ((F_impl_copyEp x_c.Cur).Key).length c359), (.int .i64 ((F_impl_copyEp x_c.Cur).Seq)), (.int .i64 (((F_impl_copyEp x_c.Cur).Win).Top)), (.slice a363 (((F_impl_copyEp x_c.Cur).Win).Bits).length c364), (.int .i64 ((F_impl_copyEp x_c.Old).N)), (.slice a370 ((F_impl_copyEp x_c.Old).Key).length c371), (.int .i64 ((F_impl_copyEp x_c.Old).Seq)), (.int .i64 (((F_impl_copyEp x_c.Old).Win).Top)), (.slice a375 (((F_impl_copyEp x_c.Old).Win).Bits).length c376), (.bool x_c.HasOld), (.int .i64 x_c.Until), (.slice a177 (F_impl_clone x_c.Next).length c178)]) rfl (rv_c [(.int .i64 x_c.Role), (.slice a170 (F_impl_clone x_c.Sn).length c171), (.int .i64 ((F_impl_copyEp x_c.Cur).N)), (.slice a358 ((F_impl_copyEp x_c.Cur).Key).length c359), (.int .i64 ((F_impl_copyEp x_c.Cur).Seq)), (.int .i64 (((F_impl_copyEp x_c.Cur).Win).Top)), (.slice a363 (((F_impl_copyEp x_c.Cur).Win).Bits).length c364), (.int .i64 ((F_impl_copyEp x_c.Old).N)), (.slice a370 ((F_impl_copyEp x_c.Old).Key).length c371), (.int .i64 ((F_impl_copyEp x_c.Old).Seq)), (.int .i64 (((F_impl_copyEp x_c.Old).Win).Top)), (.slice a375 (((F_impl_copyEp x_c.Old).Win).Bits).length c376), (.bool x_c.HasOld), (.int .i64 x_c.Until), (.slice a177 (F_impl_clone x_c.Next).length c178)] rfl b393 isAgg_29 sizeOf_29) ?_
      refine ⟨m395.keep0, ?_⟩
      have hF402 : F_impl_copyChan x_c = { Role := x_c.Role, Sn := (F_impl_clone x_c.Sn), Cur := (F_impl_copyEp x_c.Cur), Old := (F_impl_copyEp x_c.Old), HasOld := x_c.HasOld, Until := x_c.Until, Next := (F_impl_clone x_c.Next) : PChan } := by rfl
      rw [hF402]
      exact ⟨_, _, _, _, _, _, _, _, _, _, _, _, rfl, (own_lo o396 (Nat.le_trans k34.size k40.size)), s173, (own_lo o397 (Nat.le_trans (Nat.le_trans (Nat.le_trans (Nat.le_trans k34.size k40.size) k167.size) k185.size) k189.size)), s361, (own_lo o398 (Nat.le_trans (Nat.le_trans (Nat.le_trans (Nat.le_trans k34.size k40.size) k167.size) k185.size) k189.size)), s366, (own_lo o399 (Nat.le_trans (Nat.le_trans (Nat.le_trans (Nat.le_trans k34.size k40.size) k167.size) k185.size) k189.size)), s373, (own_lo o400 (Nat.le_trans (Nat.le_trans (Nat.le_trans (Nat.le_trans k34.size k40.size) k167.size) k185.size) k189.size)), s378, (own_lo o401 (Nat.le_trans k34.size k40.size)), s180, ⟨⟨(Ap.lt o172 o360 (Nat.le_trans k185.size k189.size)), ⟨(Ap.lt o172 o365 (Nat.le_trans k185.size k189.size)), ⟨(Ap.lt o172 o372 (Nat.le_trans k185.size k189.size)), ⟨(Ap.lt o172 o377 (Nat.le_trans k185.size k189.size)), ⟨hx183, trivial⟩⟩⟩⟩⟩, ⟨⟨(ap368.1.1), ⟨(hx381.1), ⟨(hx381.2.1), ⟨(Ap.lt o179 o360 (Nat.le_trans k185.size k189.size)).symm, trivial⟩⟩⟩⟩, ⟨⟨(hx381.2.2.1), ⟨(hx381.2.2.2), ⟨(Ap.lt o179 o365 (Nat.le_trans k185.size k189.size)).symm, trivial⟩⟩⟩, ⟨⟨(ap380.1.1), ⟨(Ap.lt o179 o372 (Nat.le_trans k185.size k189.size)).symm, trivial⟩⟩, ⟨⟨(Ap.lt o179 o377 (Nat.le_trans k185.size k189.size)).symm, trivial⟩, ⟨trivial, trivial⟩⟩⟩⟩⟩⟩⟩
end Go.Proofs.Ytodlalolknldmaa.K
