import Derived.Test.YtafcngfnhhchjaaCore
import Derived.Test.YtafcngfnhhchjaaProg
import Derived.Test.YtafcngfnhhchjaaHeld
import Derived.Test.YtafcngfnhhchjaaFun
import Derived.Test.YtafcngfnhhchjaaFunZ
import Derived.Test.YtafcngfnhhchjaaSqz
import Derived.Test.YtafcngfnhhchjaaHash
import Derived.Test.YtafcngfnhhchjaaWh4
namespace Go.Proofs.Ytafcngfnhhchjaa.K
open Go.RowKit
set_option linter.unusedVariables false
set_option linter.unusedSimpArgs false
set_option maxRecDepth 100000
set_option maxHeartbeats 4000000
def F_impl_oldOk (x_c : PChan) : (Bool) := bif x_c.HasOld then (bif (F_impl_EpOk x_c.Old) then (bif (decide (x_c.Old.N = (x_c.Cur.N - 1))) then (bif (F_impl_within x_c.Until 0 1000005) then (true) else (bif (decide (x_c.Until = (-1))) then (decide (x_c.Role = 1)) else (false))) else (false)) else (false)) else (bif (F_impl_sameEp x_c.Old { N := 0, Key := [], Seq := 0, Win := { Top := 0, Bits := [] : PWin } : PEp }) then (decide (x_c.Until = 0)) else (false))
theorem C_impl_oldOk (w0 : World) (v_x_c : Value) (x_c : PChan) (r_x_c : R_38 w0 v_x_c x_c) (pre0 : 0 ≤ x_c.Cur.N) (pre1 : x_c.Cur.N ≤ 4294967295) : Fn Try.prog 62 #[v_x_c] w0 (fun v w' => Keep w0 w' ∧ O_4 w' w0.heap.size v (F_impl_oldOk x_c)) := by
 obtain ⟨a1, c2, a6, c7, a11, c12, a16, c17, a21, c22, a26, c27, rfl, r3, s4, r8, s9, r13, s14, r18, s19, r23, s24, r28, s29⟩ := r_x_c
 refine fn_of (n := 42) (l := [(va (L_38 x_c a1 c2 a6 c7 a11 c12 a16 c17 a21 c22 a26 c27)), U, U, U, U, U, U, U, U, U, U, U, U, U, U, U, U, U, U, U, U, U, U, U, U, U, U, U, U, U, U, U, U, U, U, U, U, U, U, U, U, U]) Try.func62 rfl rfl (by kernel_rfl) rfl ?_
 refine sr ?_
 refine bx (L_38 x_c a1 c2 a6 c7 a11 c12 a16 c17 a21 c22 a26 c27) wN ?_
 intro g31 w1 p32 p33 k34 b35
 have m36 := (Ch.base w0).extk k34
 refine aw (vb false) ?_
 refine n4 ?_
 refine pu (vp g31 12) wN ?_
 refine ld (vb x_c.HasOld) wN isAgg_4 b35 ?_
 refine pu (vb (!x_c.HasOld)) wN ?_
 refine n2 ?_
 rcases bf x_c.HasOld with h37 | h37
 ·refine ct (congrArg not h37) ?_
  refine sr ?_
  refine pu (vp g31 7) wN ?_
  refine lN (L_36 x_c.Old a16 c17 a21 c22) wN isAgg_36 sizeOf_36 b35 ?_
  refine pu (va [(vi 0), (vs none 0 0), (vi 0), (vi 0), (vs none 0 0)]) wN ?_
  refine cl wN (C_impl_sameEp w1 _ x_c.Old (mR_36 (r18.from0 m36) s19 (r23.from0 m36) s24) _ _ (show R_36 w1 (va [(vi 0), (vs none 0 0), (vi 0), (vi 0), (vs none 0 0)]) { N := 0, Key := [], Seq := 0, Win := { Top := 0, Bits := [] : PWin } : PEp } from ⟨_, _, _, _, rfl, (Rd.nil _ _), (by simp), (Rd.nil _ _), (by simp)⟩)) ?_
  rintro _ w2 ⟨k63, rfl⟩
  have m64 := m36.extk k63
  refine mw (vb (F_impl_sameEp x_c.Old { N := 0, Key := [], Seq := 0, Win := { Top := 0, Bits := [] : PWin } : PEp })) ?_
  rcases bf (F_impl_sameEp x_c.Old { N := 0, Key := [], Seq := 0, Win := { Top := 0, Bits := [] : PWin } : PEp }) with h65 | h65
  ·refine sk h65 ?_
   refine sk h65 ?_
   refine sk h65 ?_
   refine pf (vb false) wN h65 ?_
   refine aw (vb false) ?_
   refine n1 ?_
   refine rt (vb false) ?_
   refine ⟨m64.keep0, ?_⟩
   have hF70 : F_impl_oldOk x_c = false := by simp only [F_impl_oldOk, h37, h65, cond_true, cond_false]
   rw [hF70]
   exact rfl
  refine pu (vp g31 13) (wS h65) ?_
  have b67 := (b35.kp k63)
  refine ld (vi x_c.Until) (wS h65) isAgg_3 b67 ?_
  refine pu (vb (decide (x_c.Until = 0))) (wS h65) ?_
  refine pk (vb (decide (x_c.Until = 0))) wN h65 ?_
  refine aw (vb (decide (x_c.Until = 0))) ?_
  refine n1 ?_
  refine rt (vb (decide (x_c.Until = 0))) ?_
  refine ⟨m64.keep0, ?_⟩
  have hF68 : F_impl_oldOk x_c = decide (x_c.Until = 0) := by simp only [F_impl_oldOk, h37, h65, cond_true, cond_false]
  rw [hF68]
  exact rfl
 refine cf (congrArg not h37) ?_
 refine y2 ?_
 refine pu (vp g31 7) wN ?_
 refine lN (L_36 x_c.Old a16 c17 a21 c22) wN isAgg_36 sizeOf_36 b35 ?_
 refine cl wN (C_impl_EpOk w1 _ x_c.Old (mR_36 (r18.from0 m36) s19 (r23.from0 m36) s24)) ?_
 rintro _ w2 ⟨k39, rfl⟩
 have m40 := m36.extk k39
 refine pu (vb (!(F_impl_EpOk x_c.Old))) wN ?_
 refine mw (vb (!(F_impl_EpOk x_c.Old))) ?_
 rcases bf (F_impl_EpOk x_c.Old) with h41 | h41
 ·refine sk (congrArg not h41) ?_
  refine sk (congrArg not h41) ?_
  refine sk (congrArg not h41) ?_
  refine sk (congrArg not h41) ?_
  refine sk (congrArg not h41) ?_
  refine sk (congrArg not h41) ?_
  refine sk (congrArg not h41) ?_
  refine sk (congrArg not h41) ?_
  refine pk (vb true) wN (congrArg not h41) ?_
  refine n2 ?_
  refine ct (Eq.refl true) ?_
  refine sr ?_
  refine aw (vb false) ?_
  refine n1 ?_
  refine rt (vb false) ?_
  refine ⟨m40.keep0, ?_⟩
  have hF61 : F_impl_oldOk x_c = false := by simp only [F_impl_oldOk, h37, h41, cond_true, cond_false]
  rw [hF61]
  exact rfl
 have q42 := impl_EpOk_t h41
 refine pu (vp g31 7) (wS (congrArg not h41)) ?_
 refine pu (vp g31 7) (wS (congrArg not h41)) ?_
 have b43 := (b35.kp k39)
 refine ld (vi x_c.Old.N) (wS (congrArg not h41)) isAgg_3 b43 ?_
 refine pu (vp g31 2) (wS (congrArg not h41)) ?_
 refine pu (vp g31 2) (wS (congrArg not h41)) ?_
 refine ld (vi x_c.Cur.N) (wS (congrArg not h41)) isAgg_3 b43 ?_
 refine ar (x_c.Cur.N - 1) (wS (congrArg not h41)) ?_
 refine pu (vb (!(decide (x_c.Old.N = (x_c.Cur.N - 1))))) (wS (congrArg not h41)) ?_
 refine pf (vb (!(decide (x_c.Old.N = (x_c.Cur.N - 1))))) wN (congrArg not h41) ?_
 refine n2 ?_
 rcases bf (decide (x_c.Old.N = (x_c.Cur.N - 1))) with h44 | h44
 ·have q58 := of_decide_eq_false h44
  refine ct (congrArg not h44) ?_
  refine sr ?_
  refine aw (vb false) ?_
  refine n1 ?_
  refine rt (vb false) ?_
  refine ⟨m40.keep0, ?_⟩
  have hF59 : F_impl_oldOk x_c = false := by simp only [F_impl_oldOk, h37, h41, h44, cond_true, cond_false]
  rw [hF59]
  exact rfl
 have q45 := of_decide_eq_true h44
 refine cf (congrArg not h44) ?_
 refine y1 ?_
 refine pu (vp g31 13) wN ?_
 refine ld (vi x_c.Until) wN isAgg_3 b43 ?_
 refine cl wN (C_impl_within w2 x_c.Until 0 1000005) ?_
 rintro _ w3 ⟨k46, rfl⟩
 have m47 := m40.extk k46
 refine mw (vb (F_impl_within x_c.Until 0 1000005)) ?_
 rcases bt (F_impl_within x_c.Until 0 1000005) with h48 | h48
 ·have q49 := impl_within_t h48
  refine sk h48 ?_
  refine sk h48 ?_
  refine sk h48 ?_
  refine sk h48 ?_
  refine su ?_
  refine su ?_
  refine su ?_
  refine sk h48 ?_
  refine pk (vb true) wN h48 ?_
  refine aw (vb true) ?_
  refine n3 ?_
  refine rt (vb true) ?_
  refine ⟨m47.keep0, ?_⟩
  have hF50 : F_impl_oldOk x_c = true := by simp only [F_impl_oldOk, h37, h41, h44, h48, cond_true, cond_false]
  rw [hF50]
  exact rfl
 have q51 := impl_within_f h48
 refine pu (vp g31 13) (wS h48) ?_
 have b52 := (b43.kp k46)
 refine ld (vi x_c.Until) (wS h48) isAgg_3 b52 ?_
 refine pu (vb (decide (x_c.Until = (-1)))) (wS h48) ?_
 refine mv (vb (decide (x_c.Until = (-1)))) (wS h48) ?_
 rcases bf (decide (x_c.Until = (-1))) with h53 | h53
 ·have q56 := of_decide_eq_false h53
  refine sk h53 ?_
  refine sk h53 ?_
  refine sk h53 ?_
  refine pf (vb false) (wS h48) h53 ?_
  refine pf (vb false) wN h48 ?_
  refine aw (vb false) ?_
  refine n3 ?_
  refine rt (vb false) ?_
  refine ⟨m47.keep0, ?_⟩
  have hF57 : F_impl_oldOk x_c = false := by simp only [F_impl_oldOk, h37, h41, h44, h48, h53, cond_true, cond_false]
  rw [hF57]
  exact rfl
 have q54 := of_decide_eq_true h53
 refine pu (vp g31 0) (wS h53) ?_
 refine ld (vi x_c.Role) (wS h53) isAgg_3 b52 ?_
 refine pu (vb (decide (x_c.Role = 1))) (wS h53) ?_
 refine pk (vb (decide (x_c.Role = 1))) (wS h48) h53 ?_
 refine pf (vb (decide (x_c.Role = 1))) wN h48 ?_
 refine aw (vb (decide (x_c.Role = 1))) ?_
 refine n3 ?_
 refine rt (vb (decide (x_c.Role = 1))) ?_
 refine ⟨m47.keep0, ?_⟩
 have hF55 : F_impl_oldOk x_c = decide (x_c.Role = 1) := by simp only [F_impl_oldOk, h37, h41, h44, h48, h53, cond_true, cond_false]
 rw [hF55]
 exact rfl

theorem mR_38 {w : World} {x : PChan} {a1 : Option Addr} {c1 : Nat} {a2 : Option Addr} {c2 : Nat} {a3 : Option Addr} {c3 : Nat} {a4 : Option Addr} {c4 : Nat} {a5 : Option Addr} {c5 : Nat} {a6 : Option Addr} {c6 : Nat} (h1 : Rd w 1 (.slice a1 x.Sn.length c1) x.Sn.length (x.Sn.map bV)) (l1 : x.Sn.length ≤ 1073741824) (h2 : Rd w 1 (.slice a2 x.Cur.Key.length c2) x.Cur.Key.length (x.Cur.Key.map bV)) (l2 : x.Cur.Key.length ≤ 1073741824) (h3 : Rd w 1 (.slice a3 x.Cur.Win.Bits.length c3) x.Cur.Win.Bits.length (x.Cur.Win.Bits.map iV)) (l3 : x.Cur.Win.Bits.length ≤ 1073741824) (h4 : Rd w 1 (.slice a4 x.Old.Key.length c4) x.Old.Key.length (x.Old.Key.map bV)) (l4 : x.Old.Key.length ≤ 1073741824) (h5 : Rd w 1 (.slice a5 x.Old.Win.Bits.length c5) x.Old.Win.Bits.length (x.Old.Win.Bits.map iV)) (l5 : x.Old.Win.Bits.length ≤ 1073741824) (h6 : Rd w 1 (.slice a6 x.Next.length c6) x.Next.length (x.Next.map bV)) (l6 : x.Next.length ≤ 1073741824) : R_38 w (va (L_38 x a1 c1 a2 c2 a3 c3 a4 c4 a5 c5 a6 c6)) x := ⟨_, _, _, _, _, _, _, _, _, _, _, _, rfl, h1, l1, h2, l2, h3, l3, h4, l4, h5, l5, h6, l6⟩
def F_impl_ChanOk (x_c : PChan) : (Bool) := bif (F_impl_isRole x_c.Role) then (bif (F_impl_isNonce x_c.Sn) then (bif (F_impl_EpOk x_c.Cur) then (bif (F_impl_oldOk x_c) then (bif (decide ((x_c.Next.length : Int) = 0)) then (true) else (bif (decide (x_c.Role = 0)) then (bif (decide ((x_c.Next.length : Int) = 32)) then (decide (x_c.Cur.N < 4294967295)) else (false)) else (false))) else (false)) else (false)) else (false)) else (false)
theorem C_impl_ChanOk (w0 : World) (v_x_c : Value) (x_c : PChan) (r_x_c : R_38 w0 v_x_c x_c)  : Fn Try.prog 22 #[v_x_c] w0 (fun v w' => Keep w0 w' ∧ O_4 w' w0.heap.size v (F_impl_ChanOk x_c)) := by
 obtain ⟨a1, c2, a6, c7, a11, c12, a16, c17, a21, c22, a26, c27, rfl, r3, s4, r8, s9, r13, s14, r18, s19, r23, s24, r28, s29⟩ := r_x_c
 refine fn_of (n := 45) (l := [(va (L_38 x_c a1 c2 a6 c7 a11 c12 a16 c17 a21 c22 a26 c27)), U, U, U, U, U, U, U, U, U, U, U, U, U, U, U, U, U, U, U, U, U, U, U, U, U, U, U, U, U, U, U, U, U, U, U, U, U, U, U, U, U, U, U, U]) Try.func22 rfl rfl (by kernel_rfl) rfl ?_
 refine sr ?_
 refine bx (L_38 x_c a1 c2 a6 c7 a11 c12 a16 c17 a21 c22 a26 c27) wN ?_
 intro g31 w1 p32 p33 k34 b35
 have m36 := (Ch.base w0).extk k34
 refine aw (vb false) ?_
 refine n4 ?_
 refine pu (vp g31 0) wN ?_
 refine ld (vi x_c.Role) wN isAgg_3 b35 ?_
 refine cl wN (C_impl_isRole w1 x_c.Role) ?_
 rintro _ w2 ⟨k37, rfl⟩
 have m38 := m36.extk k37
 refine pu (vb (!(F_impl_isRole x_c.Role))) wN ?_
 refine mw (vb (!(F_impl_isRole x_c.Role))) ?_
 rcases bf (F_impl_isRole x_c.Role) with h39 | h39
 ·refine sk (congrArg not h39) ?_
  refine sk (congrArg not h39) ?_
  refine sk (congrArg not h39) ?_
  refine sk (congrArg not h39) ?_
  refine pk (vb true) wN (congrArg not h39) ?_
  refine mw (vb true) ?_
  refine sk T1 ?_
  refine sk T1 ?_
  refine sk T1 ?_
  refine sk T1 ?_
  refine pk (vb true) wN (Eq.refl true) ?_
  refine mw (vb true) ?_
  refine sk T1 ?_
  refine sk T1 ?_
  refine sk T1 ?_
  refine pk (vb true) wN (Eq.refl true) ?_
  refine n2 ?_
  refine ct (Eq.refl true) ?_
  refine sr ?_
  refine aw (vb false) ?_
  refine n1 ?_
  refine rt (vb false) ?_
  refine ⟨m38.keep0, ?_⟩
  have hF77 : F_impl_ChanOk x_c = false := by simp only [F_impl_ChanOk, h39, cond_true, cond_false]
  rw [hF77]
  exact rfl
 refine pu (vp g31 1) (wS (congrArg not h39)) ?_
 have b41 := (b35.kp k37)
 refine ld (vs a1 x_c.Sn.length c2) (wS (congrArg not h39)) isAgg_22 b41 ?_
 refine cl (wS (congrArg not h39)) (C_impl_isNonce w2 _ x_c.Sn (mR_22 (r3.from0 m38) s4)) ?_
 rintro _ w3 ⟨k42, rfl⟩
 have m43 := m38.extk k42
 refine pu (vb (!(F_impl_isNonce x_c.Sn))) (wS (congrArg not h39)) ?_
 refine pf (vb (!(F_impl_isNonce x_c.Sn))) wN (congrArg not h39) ?_
 refine mw (vb (!(F_impl_isNonce x_c.Sn))) ?_
 rcases bf (F_impl_isNonce x_c.Sn) with h44 | h44
 ·refine sk (congrArg not h44) ?_
  refine sk (congrArg not h44) ?_
  refine sk (congrArg not h44) ?_
  refine sk (congrArg not h44) ?_
  refine pk (vb true) wN (congrArg not h44) ?_
  refine mw (vb true) ?_
  refine sk T1 ?_
  refine sk T1 ?_
  refine sk T1 ?_
  refine pk (vb true) wN (Eq.refl true) ?_
  refine n2 ?_
  refine ct (Eq.refl true) ?_
  refine sr ?_
  refine aw (vb false) ?_
  refine n1 ?_
  refine rt (vb false) ?_
  refine ⟨m43.keep0, ?_⟩
  have hF75 : F_impl_ChanOk x_c = false := by simp only [F_impl_ChanOk, h39, h44, cond_true, cond_false]
  rw [hF75]
  exact rfl
 refine pu (vp g31 2) (wS (congrArg not h44)) ?_
 have b46 := (b41.kp k42)
 refine lN (L_36 x_c.Cur a6 c7 a11 c12) (wS (congrArg not h44)) isAgg_36 sizeOf_36 b46 ?_
 refine cl (wS (congrArg not h44)) (C_impl_EpOk w3 _ x_c.Cur (mR_36 (r8.from0 m43) s9 (r13.from0 m43) s14)) ?_
 rintro _ w4 ⟨k47, rfl⟩
 have m48 := m43.extk k47
 refine pu (vb (!(F_impl_EpOk x_c.Cur))) (wS (congrArg not h44)) ?_
 refine pf (vb (!(F_impl_EpOk x_c.Cur))) wN (congrArg not h44) ?_
 refine mw (vb (!(F_impl_EpOk x_c.Cur))) ?_
 rcases bf (F_impl_EpOk x_c.Cur) with h49 | h49
 ·refine sk (congrArg not h49) ?_
  refine sk (congrArg not h49) ?_
  refine sk (congrArg not h49) ?_
  refine pk (vb true) wN (congrArg not h49) ?_
  refine n2 ?_
  refine ct (Eq.refl true) ?_
  refine sr ?_
  refine aw (vb false) ?_
  refine n1 ?_
  refine rt (vb false) ?_
  refine ⟨m48.keep0, ?_⟩
  have hF73 : F_impl_ChanOk x_c = false := by simp only [F_impl_ChanOk, h39, h44, h49, cond_true, cond_false]
  rw [hF73]
  exact rfl
 have q50 := impl_EpOk_t h49
 have b51 := (b46.kp k47)
 refine lN (L_38 x_c a1 c2 a6 c7 a11 c12 a16 c17 a21 c22 a26 c27) (wS (congrArg not h49)) isAgg_38 sizeOf_38 b51 ?_
 refine cl (wS (congrArg not h49)) (C_impl_oldOk w4 _ x_c (mR_38 (r3.from0 m48) s4 (r8.from0 m48) s9 (r13.from0 m48) s14 (r18.from0 m48) s19 (r23.from0 m48) s24 (r28.from0 m48) s29) (by omega) (by omega)) ?_
 rintro _ w5 ⟨k52, rfl⟩
 have m53 := m48.extk k52
 refine pu (vb (!(F_impl_oldOk x_c))) (wS (congrArg not h49)) ?_
 refine pf (vb (!(F_impl_oldOk x_c))) wN (congrArg not h49) ?_
 refine n2 ?_
 rcases bf (F_impl_oldOk x_c) with h54 | h54
 ·refine ct (congrArg not h54) ?_
  refine sr ?_
  refine aw (vb false) ?_
  refine n1 ?_
  refine rt (vb false) ?_
  refine ⟨m53.keep0, ?_⟩
  have hF71 : F_impl_ChanOk x_c = false := by simp only [F_impl_ChanOk, h39, h44, h49, h54, cond_true, cond_false]
  rw [hF71]
  exact rfl
 refine cf (congrArg not h54) ?_
 refine y1 ?_
 refine pu (vp g31 14) wN ?_
 have b56 := (b51.kp k52)
 refine ld (vs a26 x_c.Next.length c27) wN isAgg_22 b56 ?_
 refine ln wN slTy_22 (r28.from0 m53) ?_
 refine pu (vb (decide ((x_c.Next.length : Int) = 0))) wN ?_
 refine mw (vb (decide ((x_c.Next.length : Int) = 0))) ?_
 rcases bt (decide ((x_c.Next.length : Int) = 0)) with h57 | h57
 ·have q58 := of_decide_eq_true h57
  refine sk h57 ?_
  refine sk h57 ?_
  refine sk h57 ?_
  refine sk h57 ?_
  refine su ?_
  refine su ?_
  refine su ?_
  refine su ?_
  refine sk h57 ?_
  refine sk h57 ?_
  refine su ?_
  refine su ?_
  refine su ?_
  refine su ?_
  refine sk h57 ?_
  refine pk (vb true) wN h57 ?_
  refine aw (vb true) ?_
  refine n3 ?_
  refine rt (vb true) ?_
  refine ⟨m53.keep0, ?_⟩
  have hF59 : F_impl_ChanOk x_c = true := by simp only [F_impl_ChanOk, h39, h44, h49, h54, h57, cond_true, cond_false]
  rw [hF59]
  exact rfl
 have q60 := of_decide_eq_false h57
 refine pu (vp g31 0) (wS h57) ?_
 refine ld (vi x_c.Role) (wS h57) isAgg_3 b56 ?_
 refine pu (vb (decide (x_c.Role = 0))) (wS h57) ?_
 refine mv (vb (decide (x_c.Role = 0))) (wS h57) ?_
 rcases bf (decide (x_c.Role = 0)) with h61 | h61
 ·have q68 := of_decide_eq_false h61
  refine sk h61 ?_
  refine sk h61 ?_
  refine sk h61 ?_
  refine sk h61 ?_
  refine pf (vb false) (wS h57) h61 ?_
  refine mv (vb false) (wS h57) ?_
  refine sk F1 ?_
  refine sk F1 ?_
  refine sk F1 ?_
  refine sk F1 ?_
  refine pf (vb false) (wS h57) (Eq.refl false) ?_
  refine pf (vb false) wN h57 ?_
  refine aw (vb false) ?_
  refine n3 ?_
  refine rt (vb false) ?_
  refine ⟨m53.keep0, ?_⟩
  have hF69 : F_impl_ChanOk x_c = false := by simp only [F_impl_ChanOk, h39, h44, h49, h54, h57, h61, cond_true, cond_false]
  rw [hF69]
  exact rfl
 have q62 := of_decide_eq_true h61
 refine pu (vp g31 14) (wS h61) ?_
 refine ld (vs a26 x_c.Next.length c27) (wS h61) isAgg_22 b56 ?_
 refine ln (wS h61) slTy_22 (r28.from0 m53) ?_
 refine pu (vb (decide ((x_c.Next.length : Int) = 32))) (wS h61) ?_
 refine pk (vb (decide ((x_c.Next.length : Int) = 32))) (wS h57) h61 ?_
 refine mv (vb (decide ((x_c.Next.length : Int) = 32))) (wS h57) ?_
 rcases bf (decide ((x_c.Next.length : Int) = 32)) with h63 | h63
 ·have q66 := of_decide_eq_false h63
  refine sk h63 ?_
  refine sk h63 ?_
  refine sk h63 ?_
  refine sk h63 ?_
  refine pf (vb false) (wS h57) h63 ?_
  refine pf (vb false) wN h57 ?_
  refine aw (vb false) ?_
  refine n3 ?_
  refine rt (vb false) ?_
  refine ⟨m53.keep0, ?_⟩
  have hF67 : F_impl_ChanOk x_c = false := by simp only [F_impl_ChanOk, h39, h44, h49, h54, h57, h61, h63, cond_true, cond_false]
  rw [hF67]
  exact rfl
 have q64 := of_decide_eq_true h63
 refine pu (vp g31 2) (wS h63) ?_
 refine pu (vp g31 2) (wS h63) ?_
 refine ld (vi x_c.Cur.N) (wS h63) isAgg_3 b56 ?_
 refine pu (vb (decide (x_c.Cur.N < 4294967295))) (wS h63) ?_
 refine pk (vb (decide (x_c.Cur.N < 4294967295))) (wS h57) h63 ?_
 refine pf (vb (decide (x_c.Cur.N < 4294967295))) wN h57 ?_
 refine aw (vb (decide (x_c.Cur.N < 4294967295))) ?_
 refine n3 ?_
 refine rt (vb (decide (x_c.Cur.N < 4294967295))) ?_
 refine ⟨m53.keep0, ?_⟩
 have hF65 : F_impl_ChanOk x_c = decide (x_c.Cur.N < 4294967295) := by simp only [F_impl_ChanOk, h39, h44, h49, h54, h57, h61, h63, cond_true, cond_false]
 rw [hF65]
 exact rfl
theorem impl_ChanOk_t {c : PChan} (h : F_impl_ChanOk c = true) : 0 ≤ c.Cur.N ∧ c.Cur.N ≤ 4294967295 := by
  cases h1 : F_impl_EpOk c.Cur with
  | false => simp [F_impl_ChanOk, h1] at h
  | true => exact ⟨(impl_EpOk_t h1).1, (impl_EpOk_t h1).2.1⟩

theorem C_laws_eqIntS (w0 : World) (v_x_a : Value) (x_a : List Int) (r_x_a : R_32 w0 v_x_a x_a) (v_x_b : Value) (x_b : List Int) (r_x_b : R_32 w0 v_x_b x_b)  : Fn Try.prog 137 #[v_x_a, v_x_b] w0 (fun v w' => Keep w0 w' ∧ O_4 w' w0.heap.size v (eqI x_a x_b)) := by
 obtain ⟨a1, c2, rfl, r3, s4⟩ := r_x_a
 obtain ⟨a6, c7, rfl, r8, s9⟩ := r_x_b
 refine fn_of (n := 26) (l := [(vs a1 x_a.length c2), (vs a6 x_b.length c7), U, U, U, U, U, U, U, U, U, U, U, U, U, U, U, U, U, U, U, U, U, U, U, U]) Try.func137 rfl rfl (by kernel_rfl) rfl ?_
 refine sr ?_
 refine aw (vb false) ?_
 refine n4 ?_
 refine mw (vs a1 x_a.length c2) ?_
 refine ln wN slTy_32 r3 ?_
 refine mw (vs a6 x_b.length c7) ?_
 refine ln wN slTy_32 r8 ?_
 refine pu (vb (!(decide ((x_a.length : Int) = (x_b.length : Int))))) wN ?_
 refine n2 ?_
 rcases bf (decide ((x_a.length : Int) = (x_b.length : Int))) with h11 | h11
 ·have q44 := of_decide_eq_false h11
  refine ct (congrArg not h11) ?_
  refine sr ?_
  refine aw (vb false) ?_
  refine n1 ?_
  refine rt (vb false) ?_
  refine ⟨Ch.refl _ _, ?_⟩
  have hF45 : eqI x_a x_b = false := by first | exact eqI_len (by assumption) | exact eqI_el (by assumption) | exact eqI_all (by assumption) (by omega) (by omega)
  rw [hF45]
  exact rfl
 have q12 := of_decide_eq_true h11
 refine cf (congrArg not h11) ?_
 refine y2 ?_
 refine aw (vi 0) ?_
 refine wl_nil <| wq_then <| wc_block ?_
 refine wc_loopQ (fun e => [(vs a1 x_a.length c2), (vs a6 x_b.length c7), e 2, e 3, e 4, (vi ((0 : Nat) : Int)), e 6, e 7, e 8, e 9, e 10, e 11, e 12, e 13, e 14, e 15, e 16, e 17, e 18, e 19, e 20, e 21, e 22, e 23, e 24, e 25]) rfl ⟨rfl, rfl, rfl, rfl, rfl, (congrArg (Value.int .i64) (show (0 : Int) = ((0 : Nat) : Int) by omega)), rfl, rfl, rfl, rfl, rfl, rfl, rfl, rfl, rfl, rfl, rfl, rfl, rfl, rfl, rfl, rfl, rfl, rfl, rfl, rfl, trivial⟩ (fun e' w' => ∃ (k : Nat) (u13 : Nat → Value), e' = lst [(vs a1 x_a.length c2), (vs a6 x_b.length c7), (u13 0), (u13 1), (u13 2), (vi ((k : Nat) : Int)), (u13 3), (u13 4), (u13 5), (u13 6), (u13 7), (u13 8), (u13 9), (u13 10), (u13 11), (u13 12), (u13 13), (u13 14), (u13 15), (u13 16), (u13 17), (u13 18), (u13 19), (u13 20), (u13 21), (u13 22)] ∧ Ch (fun k => w0.heap.size ≤ k) w0 w' ∧ Ch (fun k => w0.heap.size ≤ k) w0 w' ∧ k ≤ x_a.length ∧ x_a.take k = x_b.take k) (fun e' _ => x_a.length - ((intOf (e' 5))).toNat) ?_ ?_
 ·exact fun u => ⟨0, (unL [u 2, u 3, u 4, u 6, u 7, u 8, u 9, u 10, u 11, u 12, u 13, u 14, u 15, u 16, u 17, u 18, u 19, u 20, u 21, u 22, u 23, u 24, u 25]), rfl, (Ch.base w0), (Ch.refl (fun k => w0.heap.size ≤ k) w0), (by omega), (by first | rfl | exact eqI_next (by assumption) (by omega) (by omega) (by assumption))⟩
 ·rintro _ w1 ⟨k, u13, rfl, m14, k15, i16, i17⟩
  refine wc_seq <| sr ?_
  refine mw (vi ((k : Nat) : Int)) ?_
  refine mw (vs a1 x_a.length c2) ?_
  refine ln wN slTy_32 (r3.from0 m14) ?_
  refine pu (vb (decide (((k : Nat) : Int) < (x_a.length : Int)))) wN ?_
  refine n2 ?_
  rcases bf (decide (((k : Nat) : Int) < (x_a.length : Int))) with h18 | h18
  ·have q42 := of_decide_eq_false h18
   refine cf h18 ?_
   refine wc_exit <| wq_then_exit <| wq_then_exit <| wq_blk_exit <| wq_then <| sr ?_
   refine aw (vb true) ?_
   refine n3 ?_
   refine rt (vb true) ?_
   refine ⟨m14.keep0, ?_⟩
   have hF43 : eqI x_a x_b = true := by first | exact eqI_len (by assumption) | exact eqI_el (by assumption) | exact eqI_all (by assumption) (by omega) (by omega)
   rw [hF43]
   exact rfl
  have q19 := of_decide_eq_true h18
  refine ct h18 ?_
  refine wc_skip <| wq_then <| wc_seq <| wc_block <| wc_seq ?_
  refine wc_drawT ([(17, [], [], (fun _ v _ => v = (vs a1 x_a.length c2))), (18, [], [], (fun _ v _ => v = (vi ((k : Nat) : Int)))), (19, [], [0, 1], (fun _ v _ => v = (ve (vs a1 x_a.length c2) ((((k : Nat) : Int)).toNat * 1)))), (20, [], [0, 1, 2], (fun _ v _ => v = (vi (x_a.getD k 0)))), (21, [], [], (fun _ v _ => v = (vs a6 x_b.length c7))), (22, [], [], (fun _ v _ => v = (vi ((k : Nat) : Int)))), (23, [], [4, 5], (fun _ v _ => v = (ve (vs a6 x_b.length c7) ((((k : Nat) : Int)).toNat * 1)))), (24, [], [4, 5, 6], (fun _ v _ => v = (vi (x_b.getD k 0))))] : GV) (fun _ w' => Keep w1 w') [] mixed rfl (by kernel_rfl) (by kernel_rfl) ?_ (fun _ _ h => h) (fun _ _ _ _ h _ k => h.trans k) trivial ?_ ?_ ?_
  ·exact ⟨(fun _ _ _ _ h _ => h), (fun _ _ _ _ _ h => h), ⟨(fun _ _ _ _ h _ => h), (fun _ _ _ _ _ h => h), ⟨(fun _ _ _ _ h _ => h), (fun _ _ _ _ _ h => h), ⟨(fun _ _ _ _ h _ => h), (fun _ _ _ _ _ h => h), ⟨(fun _ _ _ _ h _ => h), (fun _ _ _ _ _ h => h), ⟨(fun _ _ _ _ h _ => h), (fun _ _ _ _ _ h => h), ⟨(fun _ _ _ _ h _ => h), (fun _ _ _ _ _ h => h), ⟨(fun _ _ _ _ h _ => h), (fun _ _ _ _ _ h => h), trivial⟩⟩⟩⟩⟩⟩⟩⟩
  ·exact trivial
  ·refine ⟨?_, ⟨?_, ⟨?_, ⟨?_, ⟨?_, ⟨?_, ⟨?_, ⟨?_, trivial⟩⟩⟩⟩⟩⟩⟩⟩
   ·intro _ w2 k20 _
    have m21 := m14.extk k20
    rintro _ _ _ _ _ _ _ _
    show WL _ _ _ _ _ _ _
    refine mw (vs a1 x_a.length c2) ?_
    exact f1
   ·intro _ w2 k22 _
    have m23 := m14.extk k22
    rintro _ _ _ _ _ _ _ _
    show WL _ _ _ _ _ _ _
    refine mw (vi ((k : Nat) : Int)) ?_
    exact f1
   ·intro _ w2 k24 _
    have m25 := m14.extk k24
    rintro _ rfl _ rfl _ _ _ _ _ _
    show WL _ _ _ _ _ _ _
    refine wl_index (v := (vs a1 x_a.length c2)) wN ((k : Nat) : Int) rfl rfl rfl slTy_32 rfl rfl (r3.from0 m25) (by first | omega | (simp only [List.length_cons, List.length_nil, List.length_replicate, List.length_append, List.length_take, List.length_set, List.length_map]; omega)) (by first | omega | (simp only [List.length_cons, List.length_nil, List.length_replicate, List.length_append, List.length_take, List.length_set, List.length_map]; omega)) ?_
    exact f1
   ·intro _ w2 k26 _
    have m27 := m14.extk k26
    rintro _ rfl _ rfl _ rfl _ _ _ _ _
    show WL _ _ _ _ _ _ _
    refine wl_loadE (iV (x_a.getD k 0)) wN rfl rfl rfl rfl isAgg_3 (r3.from0 m27) (iget (by simp) (by first | omega | (simp only [List.length_cons, List.length_nil, List.length_replicate, List.length_append, List.length_take, List.length_set, List.length_map]; omega))) ?_
    exact f1
   ·intro _ w2 k28 _
    have m29 := m14.extk k28
    rintro _ _ _ _ _ _ _ _
    show WL _ _ _ _ _ _ _
    refine mw (vs a6 x_b.length c7) ?_
    exact f1
   ·intro _ w2 k30 _
    have m31 := m14.extk k30
    rintro _ _ _ _ _ _ _ _
    show WL _ _ _ _ _ _ _
    refine mw (vi ((k : Nat) : Int)) ?_
    exact f1
   ·intro _ w2 k32 _
    have m33 := m14.extk k32
    rintro _ _ _ _ _ rfl _ rfl _ _
    show WL _ _ _ _ _ _ _
    refine wl_index (v := (vs a6 x_b.length c7)) wN ((k : Nat) : Int) rfl rfl rfl slTy_32 rfl rfl (r8.from0 m33) (by first | omega | (simp only [List.length_cons, List.length_nil, List.length_replicate, List.length_append, List.length_take, List.length_set, List.length_map]; omega)) (by first | omega | (simp only [List.length_cons, List.length_nil, List.length_replicate, List.length_append, List.length_take, List.length_set, List.length_map]; omega)) ?_
    exact f1
   ·intro _ w2 k34 _
    have m35 := m14.extk k34
    rintro _ _ _ _ _ rfl _ rfl _ rfl _
    show WL _ _ _ _ _ _ _
    refine wl_loadE (iV (x_b.getD k 0)) wN rfl rfl rfl rfl isAgg_3 (r8.from0 m35) (iget (by simp) (by first | omega | (simp only [List.length_cons, List.length_nil, List.length_replicate, List.length_append, List.length_take, List.length_set, List.length_map]; omega))) ?_
    exact f1
  ·intro _ w2 k36
   have m37 := m14.extk k36
   rintro _ rfl _ rfl _ rfl _ rfl _ rfl _ rfl _ rfl _ rfl
   show WL _ _ _ _ _ _ _
   refine pu (vb (!(decide ((x_a.getD k 0) = (x_b.getD k 0))))) wN ?_
   refine n2 ?_
   rcases bf (decide ((x_a.getD k 0) = (x_b.getD k 0))) with h38 | h38
   ·have q40 := of_decide_eq_false h38
    refine ct (congrArg not h38) ?_
    refine sr ?_
    refine aw (vb false) ?_
    refine wl_nil <| wq_then <| wc_ret <| wq_blk_ret <| wq_then_ret <| wq_then_ret <| wq_blk_ret <| wq_then_ret ?_
    refine rt (vb false) ?_
    refine ⟨m37.keep0, ?_⟩
    have hF41 : eqI x_a x_b = false := by first | exact eqI_len (by assumption) | exact eqI_el (by assumption) | exact eqI_all (by assumption) (by omega) (by omega)
    rw [hF41]
    exact rfl
   have q39 := of_decide_eq_true h38
   refine cf (congrArg not h38) ?_
   refine wc_skip <| wq_blk_normal <| wq_then <| wc_region ?_
   refine mw (vi ((k : Nat) : Int)) ?_
   refine ar (((k : Nat) : Int) + 1) wN ?_
   refine aw (vi (((k : Nat) : Int) + 1)) ?_
   refine wl_nil ?_
   refine wq_loopQ (w0 := w1) (fun e => [(vs a1 x_a.length c2), (vs a6 x_b.length c7), e 2, e 3, e 4, (vi (((k + 1) : Nat) : Int)), e 6, e 7, e 8, e 9, e 10, e 11, e 12, e 13, e 14, e 15, e 16, e 17, e 18, e 19, e 20, e 21, e 22, e 23, e 24, e 25]) rfl ?_ ?_ ?_
   · exact ⟨rfl, rfl, rfl, rfl, rfl, (congrArg (Value.int .i64) (show ((((k : Nat) : Int) + 1) : Int) = (((k + 1) : Nat) : Int) by omega)), rfl, rfl, rfl, rfl, rfl, rfl, rfl, rfl, rfl, rfl, rfl, rfl, rfl, rfl, rfl, rfl, rfl, rfl, rfl, rfl, trivial⟩
   · exact fun u => ⟨(k + 1), (unL [u 2, u 3, u 4, u 6, u 7, u 8, u 9, u 10, u 11, u 12, u 13, u 14, u 15, u 16, u 17, u 18, u 19, u 20, u 21, u 22, u 23, u 24, u 25]), rfl, m37, (((Ch.refl (fun k => w0.heap.size ≤ k) w0).ext k15 (fun k hk => hk)).extk k36), (by omega), (by first | rfl | exact eqI_next (by assumption) (by omega) (by omega) (by assumption))⟩
   · show x_a.length - ((((k + 1) : Nat) : Int)).toNat < x_a.length - (((k : Nat) : Int)).toNat; omega

def F_laws_eqWin (x_a : PWin) (x_b : PWin) : (Bool) := bif (decide (x_a.Top = x_b.Top)) then (bif (eqI x_a.Bits x_b.Bits) then (true) else (false)) else (false)
theorem C_laws_eqWin (w0 : World) (v_x_a : Value) (x_a : PWin) (r_x_a : R_34 w0 v_x_a x_a) (v_x_b : Value) (x_b : PWin) (r_x_b : R_34 w0 v_x_b x_b)  : Fn Try.prog 104 #[v_x_a, v_x_b] w0 (fun v w' => Keep w0 w' ∧ O_4 w' w0.heap.size v (F_laws_eqWin x_a x_b)) := by
 obtain ⟨a1, c2, rfl, r3, s4⟩ := r_x_a
 obtain ⟨a6, c7, rfl, r8, s9⟩ := r_x_b
 refine fn_of (n := 16) (l := [(va (L_34 x_a a1 c2)), (va (L_34 x_b a6 c7)), U, U, U, U, U, U, U, U, U, U, U, U, U, U]) Try.func104 rfl rfl (by kernel_rfl) rfl ?_
 refine sr ?_
 refine bx (L_34 x_a a1 c2) wN ?_
 intro g11 w1 p12 p13 k14 b15
 have m16 := (Ch.base w0).extk k14
 refine bx (L_34 x_b a6 c7) wN ?_
 intro g17 w2 p18 p19 k20 b21
 have m22 := m16.extk k20
 refine aw (vb false) ?_
 refine n4 ?_
 refine pu (vp g11 0) wN ?_
 have b23 := (b15.kp k20)
 refine ld (vi x_a.Top) wN isAgg_3 b23 ?_
 refine pu (vp g17 0) wN ?_
 refine ld (vi x_b.Top) wN isAgg_3 b21 ?_
 refine pu (vb (!(decide (x_a.Top = x_b.Top)))) wN ?_
 refine n2 ?_
 rcases bf (decide (x_a.Top = x_b.Top)) with h24 | h24
 ·have q33 := of_decide_eq_false h24
  refine ct (congrArg not h24) ?_
  refine sr ?_
  refine aw (vb false) ?_
  refine n1 ?_
  refine rt (vb false) ?_
  refine ⟨m22.keep0, ?_⟩
  have hF34 : F_laws_eqWin x_a x_b = false := by simp only [F_laws_eqWin, h24, cond_true, cond_false]
  rw [hF34]
  exact rfl
 have q25 := of_decide_eq_true h24
 refine cf (congrArg not h24) ?_
 refine y2 ?_
 refine pu (vp g11 1) wN ?_
 refine ld (vs a1 x_a.Bits.length c2) wN isAgg_32 b23 ?_
 refine pu (vp g17 1) wN ?_
 refine ld (vs a6 x_b.Bits.length c7) wN isAgg_32 b21 ?_
 refine cl wN (C_laws_eqIntS w2 _ x_a.Bits (mR_32 (r3.from0 m22) s4) _ x_b.Bits (mR_32 (r8.from0 m22) s9)) ?_
 rintro _ w3 ⟨k26, rfl⟩
 have m27 := m22.extk k26
 refine pu (vb (!(eqI x_a.Bits x_b.Bits))) wN ?_
 refine n2 ?_
 rcases bf (eqI x_a.Bits x_b.Bits) with h28 | h28
 ·refine ct (congrArg not h28) ?_
  refine sr ?_
  refine aw (vb false) ?_
  refine n1 ?_
  refine rt (vb false) ?_
  refine ⟨m27.keep0, ?_⟩
  have hF32 : F_laws_eqWin x_a x_b = false := by simp only [F_laws_eqWin, h24, h28, cond_true, cond_false]
  rw [hF32]
  exact rfl
 refine cf (congrArg not h28) ?_
 refine y1 ?_
 refine aw (vb true) ?_
 refine n3 ?_
 refine rt (vb true) ?_
 refine ⟨m27.keep0, ?_⟩
 have hF30 : F_laws_eqWin x_a x_b = true := by simp only [F_laws_eqWin, h24, h28, cond_true, cond_false]
 rw [hF30]
 exact rfl

def F_laws_eqEp (x_a : PEp) (x_b : PEp) : (Bool) := bif (decide (x_a.N = x_b.N)) then (bif (eqB x_a.Key x_b.Key) then (bif (decide (x_a.Seq = x_b.Seq)) then (bif (F_laws_eqWin x_a.Win x_b.Win) then (true) else (false)) else (false)) else (false)) else (false)
theorem C_laws_eqEp (w0 : World) (v_x_a : Value) (x_a : PEp) (r_x_a : R_36 w0 v_x_a x_a) (v_x_b : Value) (x_b : PEp) (r_x_b : R_36 w0 v_x_b x_b)  : Fn Try.prog 69 #[v_x_a, v_x_b] w0 (fun v w' => Keep w0 w' ∧ O_4 w' w0.heap.size v (F_laws_eqEp x_a x_b)) := by
 obtain ⟨a1, c2, a6, c7, rfl, r3, s4, r8, s9⟩ := r_x_a
 obtain ⟨a11, c12, a16, c17, rfl, r13, s14, r18, s19⟩ := r_x_b
 refine fn_of (n := 27) (l := [(va (L_36 x_a a1 c2 a6 c7)), (va (L_36 x_b a11 c12 a16 c17)), U, U, U, U, U, U, U, U, U, U, U, U, U, U, U, U, U, U, U, U, U, U, U, U, U]) Try.func69 rfl rfl (by kernel_rfl) rfl ?_
 refine sr ?_
 refine bx (L_36 x_a a1 c2 a6 c7) wN ?_
 intro g21 w1 p22 p23 k24 b25
 have m26 := (Ch.base w0).extk k24
 refine bx (L_36 x_b a11 c12 a16 c17) wN ?_
 intro g27 w2 p28 p29 k30 b31
 have m32 := m26.extk k30
 refine aw (vb false) ?_
 refine n4 ?_
 refine pu (vp g21 0) wN ?_
 have b33 := (b25.kp k30)
 refine ld (vi x_a.N) wN isAgg_3 b33 ?_
 refine pu (vp g27 0) wN ?_
 refine ld (vi x_b.N) wN isAgg_3 b31 ?_
 refine pu (vb (!(decide (x_a.N = x_b.N)))) wN ?_
 refine n2 ?_
 rcases bf (decide (x_a.N = x_b.N)) with h34 | h34
 ·have q55 := of_decide_eq_false h34
  refine ct (congrArg not h34) ?_
  refine sr ?_
  refine aw (vb false) ?_
  refine n1 ?_
  refine rt (vb false) ?_
  refine ⟨m32.keep0, ?_⟩
  have hF56 : F_laws_eqEp x_a x_b = false := by simp only [F_laws_eqEp, h34, cond_true, cond_false]
  rw [hF56]
  exact rfl
 have q35 := of_decide_eq_true h34
 refine cf (congrArg not h34) ?_
 refine y2 ?_
 refine pu (vp g21 1) wN ?_
 refine ld (vs a1 x_a.Key.length c2) wN isAgg_22 b33 ?_
 refine pu (vp g27 1) wN ?_
 refine ld (vs a11 x_b.Key.length c12) wN isAgg_22 b31 ?_
 refine cl wN (C_laws_eqByteS w2 _ x_a.Key (mR_22 (r3.from0 m32) s4) _ x_b.Key (mR_22 (r13.from0 m32) s14)) ?_
 rintro _ w3 ⟨k36, rfl⟩
 have m37 := m32.extk k36
 refine pu (vb (!(eqB x_a.Key x_b.Key))) wN ?_
 refine n2 ?_
 rcases bf (eqB x_a.Key x_b.Key) with h38 | h38
 ·refine ct (congrArg not h38) ?_
  refine sr ?_
  refine aw (vb false) ?_
  refine n1 ?_
  refine rt (vb false) ?_
  refine ⟨m37.keep0, ?_⟩
  have hF54 : F_laws_eqEp x_a x_b = false := by simp only [F_laws_eqEp, h34, h38, cond_true, cond_false]
  rw [hF54]
  exact rfl
 refine cf (congrArg not h38) ?_
 refine y2 ?_
 refine pu (vp g21 2) wN ?_
 have b40 := (b33.kp k36)
 refine ld (vi x_a.Seq) wN isAgg_3 b40 ?_
 refine pu (vp g27 2) wN ?_
 have b41 := (b31.kp k36)
 refine ld (vi x_b.Seq) wN isAgg_3 b41 ?_
 refine pu (vb (!(decide (x_a.Seq = x_b.Seq)))) wN ?_
 refine n2 ?_
 rcases bf (decide (x_a.Seq = x_b.Seq)) with h42 | h42
 ·have q51 := of_decide_eq_false h42
  refine ct (congrArg not h42) ?_
  refine sr ?_
  refine aw (vb false) ?_
  refine n1 ?_
  refine rt (vb false) ?_
  refine ⟨m37.keep0, ?_⟩
  have hF52 : F_laws_eqEp x_a x_b = false := by simp only [F_laws_eqEp, h34, h38, h42, cond_true, cond_false]
  rw [hF52]
  exact rfl
 have q43 := of_decide_eq_true h42
 refine cf (congrArg not h42) ?_
 refine y2 ?_
 refine pu (vp g21 3) wN ?_
 refine lN (L_34 x_a.Win a6 c7) wN isAgg_34 sizeOf_34 b40 ?_
 refine pu (vp g27 3) wN ?_
 refine lN (L_34 x_b.Win a16 c17) wN isAgg_34 sizeOf_34 b41 ?_
 refine cl wN (C_laws_eqWin w3 _ x_a.Win (mR_34 (r8.from0 m37) s9) _ x_b.Win (mR_34 (r18.from0 m37) s19)) ?_
 rintro _ w4 ⟨k44, rfl⟩
 have m45 := m37.extk k44
 refine pu (vb (!(F_laws_eqWin x_a.Win x_b.Win))) wN ?_
 refine n2 ?_
 rcases bf (F_laws_eqWin x_a.Win x_b.Win) with h46 | h46
 ·refine ct (congrArg not h46) ?_
  refine sr ?_
  refine aw (vb false) ?_
  refine n1 ?_
  refine rt (vb false) ?_
  refine ⟨m45.keep0, ?_⟩
  have hF50 : F_laws_eqEp x_a x_b = false := by simp only [F_laws_eqEp, h34, h38, h42, h46, cond_true, cond_false]
  rw [hF50]
  exact rfl
 refine cf (congrArg not h46) ?_
 refine y1 ?_
 refine aw (vb true) ?_
 refine n3 ?_
 refine rt (vb true) ?_
 refine ⟨m45.keep0, ?_⟩
 have hF48 : F_laws_eqEp x_a x_b = true := by simp only [F_laws_eqEp, h34, h38, h42, h46, cond_true, cond_false]
 rw [hF48]
 exact rfl

def F_laws_eqChan (x_a : PChan) (x_b : PChan) : (Bool) := bif (decide (x_a.Role = x_b.Role)) then (bif (eqB x_a.Sn x_b.Sn) then (bif (F_laws_eqEp x_a.Cur x_b.Cur) then (bif (F_laws_eqEp x_a.Old x_b.Old) then (bif (x_a.HasOld == x_b.HasOld) then (bif (decide (x_a.Until = x_b.Until)) then (bif (eqB x_a.Next x_b.Next) then (true) else (false)) else (false)) else (false)) else (false)) else (false)) else (false)) else (false)
theorem C_laws_eqChan (w0 : World) (v_x_a : Value) (x_a : PChan) (r_x_a : R_38 w0 v_x_a x_a) (v_x_b : Value) (x_b : PChan) (r_x_b : R_38 w0 v_x_b x_b)  : Fn Try.prog 28 #[v_x_a, v_x_b] w0 (fun v w' => Keep w0 w' ∧ O_4 w' w0.heap.size v (F_laws_eqChan x_a x_b)) := by
 obtain ⟨a1, c2, a6, c7, a11, c12, a16, c17, a21, c22, a26, c27, rfl, r3, s4, r8, s9, r13, s14, r18, s19, r23, s24, r28, s29⟩ := r_x_a
 obtain ⟨a31, c32, a36, c37, a41, c42, a46, c47, a51, c52, a56, c57, rfl, r33, s34, r38, s39, r43, s44, r48, s49, r53, s54, r58, s59⟩ := r_x_b
 refine fn_of (n := 44) (l := [(va (L_38 x_a a1 c2 a6 c7 a11 c12 a16 c17 a21 c22 a26 c27)), (va (L_38 x_b a31 c32 a36 c37 a41 c42 a46 c47 a51 c52 a56 c57)), U, U, U, U, U, U, U, U, U, U, U, U, U, U, U, U, U, U, U, U, U, U, U, U, U, U, U, U, U, U, U, U, U, U, U, U, U, U, U, U, U, U]) Try.func28 rfl rfl (by kernel_rfl) rfl ?_
 refine sr ?_
 refine bx (L_38 x_a a1 c2 a6 c7 a11 c12 a16 c17 a21 c22 a26 c27) wN ?_
 intro g61 w1 p62 p63 k64 b65
 have m66 := (Ch.base w0).extk k64
 refine bx (L_38 x_b a31 c32 a36 c37 a41 c42 a46 c47 a51 c52 a56 c57) wN ?_
 intro g67 w2 p68 p69 k70 b71
 have m72 := m66.extk k70
 refine aw (vb false) ?_
 refine n4 ?_
 refine pu (vp g61 0) wN ?_
 have b73 := (b65.kp k70)
 refine ld (vi x_a.Role) wN isAgg_3 b73 ?_
 refine pu (vp g67 0) wN ?_
 refine ld (vi x_b.Role) wN isAgg_3 b71 ?_
 refine pu (vb (!(decide (x_a.Role = x_b.Role)))) wN ?_
 refine n2 ?_
 rcases bf (decide (x_a.Role = x_b.Role)) with h74 | h74
 ·have q115 := of_decide_eq_false h74
  refine ct (congrArg not h74) ?_
  refine sr ?_
  refine aw (vb false) ?_
  refine n1 ?_
  refine rt (vb false) ?_
  refine ⟨m72.keep0, ?_⟩
  have hF116 : F_laws_eqChan x_a x_b = false := by simp only [F_laws_eqChan, h74, cond_true, cond_false]
  rw [hF116]
  exact rfl
 have q75 := of_decide_eq_true h74
 refine cf (congrArg not h74) ?_
 refine y2 ?_
 refine pu (vp g61 1) wN ?_
 refine ld (vs a1 x_a.Sn.length c2) wN isAgg_22 b73 ?_
 refine pu (vp g67 1) wN ?_
 refine ld (vs a31 x_b.Sn.length c32) wN isAgg_22 b71 ?_
 refine cl wN (C_laws_eqByteS w2 _ x_a.Sn (mR_22 (r3.from0 m72) s4) _ x_b.Sn (mR_22 (r33.from0 m72) s34)) ?_
 rintro _ w3 ⟨k76, rfl⟩
 have m77 := m72.extk k76
 refine pu (vb (!(eqB x_a.Sn x_b.Sn))) wN ?_
 refine n2 ?_
 rcases bf (eqB x_a.Sn x_b.Sn) with h78 | h78
 ·refine ct (congrArg not h78) ?_
  refine sr ?_
  refine aw (vb false) ?_
  refine n1 ?_
  refine rt (vb false) ?_
  refine ⟨m77.keep0, ?_⟩
  have hF114 : F_laws_eqChan x_a x_b = false := by simp only [F_laws_eqChan, h74, h78, cond_true, cond_false]
  rw [hF114]
  exact rfl
 refine cf (congrArg not h78) ?_
 refine y2 ?_
 refine pu (vp g61 2) wN ?_
 have b80 := (b73.kp k76)
 refine lN (L_36 x_a.Cur a6 c7 a11 c12) wN isAgg_36 sizeOf_36 b80 ?_
 refine pu (vp g67 2) wN ?_
 have b81 := (b71.kp k76)
 refine lN (L_36 x_b.Cur a36 c37 a41 c42) wN isAgg_36 sizeOf_36 b81 ?_
 refine cl wN (C_laws_eqEp w3 _ x_a.Cur (mR_36 (r8.from0 m77) s9 (r13.from0 m77) s14) _ x_b.Cur (mR_36 (r38.from0 m77) s39 (r43.from0 m77) s44)) ?_
 rintro _ w4 ⟨k82, rfl⟩
 have m83 := m77.extk k82
 refine pu (vb (!(F_laws_eqEp x_a.Cur x_b.Cur))) wN ?_
 refine n2 ?_
 rcases bf (F_laws_eqEp x_a.Cur x_b.Cur) with h84 | h84
 ·refine ct (congrArg not h84) ?_
  refine sr ?_
  refine aw (vb false) ?_
  refine n1 ?_
  refine rt (vb false) ?_
  refine ⟨m83.keep0, ?_⟩
  have hF112 : F_laws_eqChan x_a x_b = false := by simp only [F_laws_eqChan, h74, h78, h84, cond_true, cond_false]
  rw [hF112]
  exact rfl
 refine cf (congrArg not h84) ?_
 refine y2 ?_
 refine pu (vp g61 7) wN ?_
 have b86 := (b80.kp k82)
 refine lN (L_36 x_a.Old a16 c17 a21 c22) wN isAgg_36 sizeOf_36 b86 ?_
 refine pu (vp g67 7) wN ?_
 have b87 := (b81.kp k82)
 refine lN (L_36 x_b.Old a46 c47 a51 c52) wN isAgg_36 sizeOf_36 b87 ?_
 refine cl wN (C_laws_eqEp w4 _ x_a.Old (mR_36 (r18.from0 m83) s19 (r23.from0 m83) s24) _ x_b.Old (mR_36 (r48.from0 m83) s49 (r53.from0 m83) s54)) ?_
 rintro _ w5 ⟨k88, rfl⟩
 have m89 := m83.extk k88
 refine pu (vb (!(F_laws_eqEp x_a.Old x_b.Old))) wN ?_
 refine n2 ?_
 rcases bf (F_laws_eqEp x_a.Old x_b.Old) with h90 | h90
 ·refine ct (congrArg not h90) ?_
  refine sr ?_
  refine aw (vb false) ?_
  refine n1 ?_
  refine rt (vb false) ?_
  refine ⟨m89.keep0, ?_⟩
  have hF110 : F_laws_eqChan x_a x_b = false := by simp only [F_laws_eqChan, h74, h78, h84, h90, cond_true, cond_false]
  rw [hF110]
  exact rfl
 refine cf (congrArg not h90) ?_
 refine y2 ?_
 refine pu (vp g61 12) wN ?_
 have b92 := (b86.kp k88)
 refine ld (vb x_a.HasOld) wN isAgg_4 b92 ?_
 refine pu (vp g67 12) wN ?_
 have b93 := (b87.kp k88)
 refine ld (vb x_b.HasOld) wN isAgg_4 b93 ?_
 refine pu (vb (!(x_a.HasOld == x_b.HasOld))) wN ?_
 refine n2 ?_
 rcases bf (x_a.HasOld == x_b.HasOld) with h94 | h94
 ·refine ct (congrArg not h94) ?_
  refine sr ?_
  refine aw (vb false) ?_
  refine n1 ?_
  refine rt (vb false) ?_
  refine ⟨m89.keep0, ?_⟩
  have hF108 : F_laws_eqChan x_a x_b = false := by simp only [F_laws_eqChan, h74, h78, h84, h90, h94, cond_true, cond_false]
  rw [hF108]
  exact rfl
 refine cf (congrArg not h94) ?_
 refine y2 ?_
 refine pu (vp g61 13) wN ?_
 refine ld (vi x_a.Until) wN isAgg_3 b92 ?_
 refine pu (vp g67 13) wN ?_
 refine ld (vi x_b.Until) wN isAgg_3 b93 ?_
 refine pu (vb (!(decide (x_a.Until = x_b.Until)))) wN ?_
 refine n2 ?_
 rcases bf (decide (x_a.Until = x_b.Until)) with h96 | h96
 ·have q105 := of_decide_eq_false h96
  refine ct (congrArg not h96) ?_
  refine sr ?_
  refine aw (vb false) ?_
  refine n1 ?_
  refine rt (vb false) ?_
  refine ⟨m89.keep0, ?_⟩
  have hF106 : F_laws_eqChan x_a x_b = false := by simp only [F_laws_eqChan, h74, h78, h84, h90, h94, h96, cond_true, cond_false]
  rw [hF106]
  exact rfl
 have q97 := of_decide_eq_true h96
 refine cf (congrArg not h96) ?_
 refine y2 ?_
 refine pu (vp g61 14) wN ?_
 refine ld (vs a26 x_a.Next.length c27) wN isAgg_22 b92 ?_
 refine pu (vp g67 14) wN ?_
 refine ld (vs a56 x_b.Next.length c57) wN isAgg_22 b93 ?_
 refine cl wN (C_laws_eqByteS w5 _ x_a.Next (mR_22 (r28.from0 m89) s29) _ x_b.Next (mR_22 (r58.from0 m89) s59)) ?_
 rintro _ w6 ⟨k98, rfl⟩
 have m99 := m89.extk k98
 refine pu (vb (!(eqB x_a.Next x_b.Next))) wN ?_
 refine n2 ?_
 rcases bf (eqB x_a.Next x_b.Next) with h100 | h100
 ·refine ct (congrArg not h100) ?_
  refine sr ?_
  refine aw (vb false) ?_
  refine n1 ?_
  refine rt (vb false) ?_
  refine ⟨m99.keep0, ?_⟩
  have hF104 : F_laws_eqChan x_a x_b = false := by simp only [F_laws_eqChan, h74, h78, h84, h90, h94, h96, h100, cond_true, cond_false]
  rw [hF104]
  exact rfl
 refine cf (congrArg not h100) ?_
 refine y1 ?_
 refine aw (vb true) ?_
 refine n3 ?_
 refine rt (vb true) ?_
 refine ⟨m99.keep0, ?_⟩
 have hF102 : F_laws_eqChan x_a x_b = true := by simp only [F_laws_eqChan, h74, h78, h84, h90, h94, h96, h100, cond_true, cond_false]
 rw [hF102]
 exact rfl

theorem C_laws_markByteS_own (w0 : World) (a : Option Addr) (c : Nat) (x : List UInt8) (lo : Nat) (k : Int) (h0 : 0 ≤ k) (h1 : k ≤ 9000000000000000000) (hs : x.length ≤ 1073741824) (r : w0.ownsRow lo 5 1 (.slice a x.length c) x.length (x.map bV)) :
    Fn Try.prog 35 #[(.slice a x.length c), .int .i64 k] w0 (fun v w' => v = .int .i64 (k + x.length) ∧ Ch (fun b => (Value.slice a x.length c).ownBlock = some b) w0 w' ∧ w'.ownsRow lo 5 1 (.slice a x.length c) x.length ((marksB k x.length).map bV)) := by
 refine fn_of (n := 20) (l := [(.slice a x.length c), (.int .i64 k), undef, undef, undef, undef, undef, undef, undef, undef, undef, undef, undef, undef, undef, undef, undef, undef, undef, undef]) Try.func35 rfl rfl (by kernel_rfl) rfl ?_
 refine sr ?_
 refine aw (vi 0) ?_
 refine n4 ?_
 refine aw (vi 0) ?_
 refine wl_nil <| wq_then <| wc_block ?_
 refine wc_norm [(vs a x.length c), (vi k), U, U, (vi 0), (vi 0), U, U, U, U, U, U, U, U, U, U, U, U, U, U] rfl ⟨rfl, rfl, rfl, rfl, rfl, rfl, rfl, rfl, rfl, rfl, rfl, rfl, rfl, rfl, rfl, rfl, rfl, rfl, rfl, rfl, trivial⟩ ?_
 refine wc_loop (fun e' w' => ∃ (i : Nat) (u6x u7x u8x u9x u10x u11x u12x u13x u14x u15x u16x u17x u18x : Value), e' = lst [(vs a x.length c), (vi (k + ((i : Nat) : Int))), U, U, (vi 0), (vi ((i : Nat) : Int)), u6x, u7x, u8x, u9x, u10x, u11x, u12x, u13x, u14x, u15x, u16x, u17x, u18x, U] ∧ i ≤ x.length ∧ Ch (fun b => (Value.slice a x.length c).ownBlock = some b) w0 w' ∧ w'.ownsRow lo 5 1 (.slice a x.length c) x.length ((marksB k i ++ x.drop i).map bV)) (fun e' _ => x.length - (intOf (e' 5)).toNat) ?_ ?_
 ·exact ⟨0, U, U, U, U, U, U, U, U, U, U, U, U, U, congrArg (fun (p : Value) => lst [(vs a x.length c), p, U, U, (vi 0), (vi 0), U, U, U, U, U, U, U, U, U, U, U, U, U, U]) (congrArg (Value.int .i64) (show k = k + ((0 : Nat) : Int) by omega)), Nat.zero_le _, Ch.refl _ _, by simpa [marksB] using r⟩
 ·rintro _ w1 ⟨i, u6x, u7x, u8x, u9x, u10x, u11x, u12x, u13x, u14x, u15x, u16x, u17x, u18x, rfl, hi, hc, ho⟩
  refine wc_seq <| sr ?_
  refine mw (vi ((i : Nat) : Int)) ?_
  refine mw (vs a x.length c) ?_
  refine ln wN slTy_22 (Rd.of_own ho) ?_
  refine pu (vb (decide (((i : Nat) : Int) < (x.length : Int)))) wN ?_
  refine n2 ?_
  rcases bf (decide (((i : Nat) : Int) < (x.length : Int))) with h101 | h101
  ·have q105 := of_decide_eq_false h101
   refine cf h101 ?_
   refine wc_exit <| wq_then_exit <| wq_then_exit <| wq_blk_exit <| wq_then <| sr ?_
   refine mw (vi (k + ((i : Nat) : Int))) ?_
   refine aw (vi (k + ((i : Nat) : Int))) ?_
   refine n3 ?_
   have hI : i = x.length := by omega
   subst hI
   refine ret_1 (.inl rfl) (vi (k + ((x.length : Nat) : Int))) rfl rfl ⟨rfl, hc, ?_⟩
   simpa using ho
  have q102 := of_decide_eq_true h101
  refine ct h101 ?_
  refine wc_skip <| wq_then <| wc_seq <| wc_block <| sr ?_
  refine mw (vs a x.length c) ?_
  refine mw (vi ((i : Nat) : Int)) ?_
  refine mw (vi (k + ((i : Nat) : Int))) ?_
  refine wl_conv8 (k + ((i : Nat) : Int)) wN rfl rfl (by kernel_rfl) ?_
  refine wl_index (v := (vs a x.length c)) wN ((i : Nat) : Int) rfl rfl rfl slTy_22 rfl rfl (Rd.of_own ho) (by first | omega | (simp only [List.length_cons, List.length_nil, List.length_replicate, List.length_append, List.length_take, List.length_set, List.length_map]; omega)) (by first | omega | (simp only [List.length_cons, List.length_nil, List.length_replicate, List.length_append, List.length_take, List.length_set, List.length_map]; omega)) ?_
  refine wl_storeB ((marksB k i ++ x.drop i)) i ((by8 (k + ((i : Nat) : Int)))) wN rfl rfl rfl (by simp) rfl sizeOf_5 ho (by simp only [List.length_append, List.length_drop, marksB_len]; omega) ?_
  intro w2 k103 o104
  refine wl_nil <| wq_then <| wc_region ?_
  refine mw (vi (k + ((i : Nat) : Int))) ?_
  refine ar ((k + ((i : Nat) : Int)) + 1) wN ?_
  refine aw (vi ((k + ((i : Nat) : Int)) + 1)) ?_
  refine wl_nil <| wq_blk_normal <| wq_then <| wc_region ?_
  refine mw (vi ((i : Nat) : Int)) ?_
  refine ar (((i : Nat) : Int) + 1) wN ?_
  refine aw (vi (((i : Nat) : Int) + 1)) ?_
  refine wl_nil ?_
  have hE : (((marksB k i ++ x.drop i)).set i ((by8 (k + ((i : Nat) : Int))))) = marksB k (i + 1) ++ x.drop (i + 1) := by
   rw [List.set_append_right _ _ (by rw [marksB_len]; omega), marksB_len, Nat.sub_self, List.drop_eq_getElem_cons (by omega), List.set_cons_zero, marksB_snoc]
   simp
  rw [hE] at o104
  exact wq_loopN (w0 := w1) [(vs a x.length c), (vi (k + ((i + 1 : Nat) : Int))), U, U, (vi 0), (vi ((i + 1 : Nat) : Int)), (vi ((i : Nat) : Int)), (vs a x.length c), (vi (x.length : Int)), (vb (decide (((i : Nat) : Int) < (x.length : Int)))), (vi ((i : Nat) : Int)), (vi (((i : Nat) : Int) + 1)), (vs a x.length c), (vi ((i : Nat) : Int)), (vi (k + ((i : Nat) : Int))), (v8 ((by8 (k + ((i : Nat) : Int))).toNat : Int)), (ve (vs a x.length c) ((((i : Nat) : Int)).toNat * 1)), (vi (k + ((i : Nat) : Int))), (vi ((k + ((i : Nat) : Int)) + 1)), U] rfl ⟨rfl, (congrArg (Value.int .i64) (show (((k + ((i : Nat) : Int)) + 1) : Int) = (k + ((i + 1 : Nat) : Int)) by omega)), rfl, rfl, rfl, (congrArg (Value.int .i64) (show ((((i : Nat) : Int) + 1) : Int) = ((i + 1 : Nat) : Int) by omega)), rfl, rfl, rfl, rfl, rfl, rfl, rfl, rfl, rfl, rfl, rfl, rfl, rfl, rfl, trivial⟩ ⟨i + 1, (vi ((i : Nat) : Int)), (vs a x.length c), (vi (x.length : Int)), (vb (decide (((i : Nat) : Int) < (x.length : Int)))), (vi ((i : Nat) : Int)), (vi (((i : Nat) : Int) + 1)), (vs a x.length c), (vi ((i : Nat) : Int)), (vi (k + ((i : Nat) : Int))), (v8 ((by8 (k + ((i : Nat) : Int))).toNat : Int)), (ve (vs a x.length c) ((((i : Nat) : Int)).toNat * 1)), (vi (k + ((i : Nat) : Int))), (vi ((k + ((i : Nat) : Int)) + 1)), rfl, by omega, hc.comp k103 (fun _ _ h => h), o104⟩ (by show x.length - (((i + 1 : Nat) : Int)).toNat < x.length - (((i : Nat) : Int)).toNat; omega)
theorem C_laws_markByteS_nil (w0 : World) (a : Option Addr) (c : Nat) (k : Int) (r : Rd w0 1 (.slice a 0 c) 0 []) :
    Fn Try.prog 35 #[.slice a 0 c, .int .i64 k] w0 (fun v w' => v = .int .i64 k ∧ w' = w0) := by
 have hz : decide ((0 : Int) < ((0 : Nat) : Int)) = false := by decide
 refine fn_of (n := 20) (l := [(.slice a 0 c), (.int .i64 k), undef, undef, undef, undef, undef, undef, undef, undef, undef, undef, undef, undef, undef, undef, undef, undef, undef, undef]) Try.func35 rfl rfl (by kernel_rfl) rfl ?_
 refine sr ?_
 refine aw (vi 0) ?_
 refine n4 ?_
 refine aw (vi 0) ?_
 refine wl_nil <| wq_then <| wc_block ?_
 refine wc_norm [(vs a 0 c), (vi k), U, U, (vi 0), (vi 0), U, U, U, U, U, U, U, U, U, U, U, U, U, U] rfl ⟨rfl, rfl, rfl, rfl, rfl, rfl, rfl, rfl, rfl, rfl, rfl, rfl, rfl, rfl, rfl, rfl, rfl, rfl, rfl, rfl, trivial⟩ ?_
 refine wc_loop (fun e' w' => e' = lst [(vs a 0 c), (vi k), U, U, (vi 0), (vi 0), U, U, U, U, U, U, U, U, U, U, U, U, U, U] ∧ w' = w0) (fun _ _ => 0) ⟨rfl, rfl⟩ ?_
 rintro _ _ ⟨rfl, rfl⟩
 refine wc_seq <| sr ?_
 refine mw (vi 0) ?_
 refine mw (vs a 0 c) ?_
 refine ln wN slTy_22 r ?_
 refine pu (vb (decide (0 < ((0 : Nat) : Int)))) wN ?_
 refine n2 ?_
 refine cf hz ?_
 refine wc_exit <| wq_then_exit <| wq_then_exit <| wq_blk_exit <| wq_then <| sr ?_
 refine mw (vi k) ?_
 refine aw (vi k) ?_
 refine n3 ?_
 exact ret_1 (.inl rfl) (vi k) rfl rfl ⟨rfl, rfl⟩
theorem C_laws_markByteS (w0 : World) (a : Option Addr) (c : Nat) (x : List UInt8) (k : Int) (h0 : 0 ≤ k) (h1 : k ≤ 9000000000000000000) (hs : x.length ≤ 1073741824) (r : Rd w0 1 (.slice a x.length c) x.length (x.map bV)) (hw : Wp w0 5 a x.length c (x.map bV)) :
    Fn Try.prog 35 #[.slice a x.length c, .int .i64 k] w0 (fun v w' => v = .int .i64 (k + x.length) ∧ Ch (MS [(a, x.length)]) w0 w' ∧ Rd w' 1 (.slice a x.length c) x.length ((marksB k x.length).map bV)) := by
  rcases Nat.eq_zero_or_pos x.length with hz | hz
  · obtain rfl : x = [] := List.eq_nil_of_length_eq_zero hz
    refine (C_laws_markByteS_nil w0 a c k r).mono ?_
    rintro _ _ ⟨rfl, rfl⟩
    exact ⟨by simp, Ch.refl _ _, r⟩
  · rcases hw with hw | ⟨lo, hw⟩
    · omega
    · refine (C_laws_markByteS_own w0 a c x lo k h0 h1 hs hw).mono ?_
      rintro _ w' ⟨rfl, hc, ho⟩
      refine ⟨rfl, hc.mono fun b _ hb => ?_, Rd.of_own ho⟩
      rcases a with _ | ad
      · cases hb
      · exact .inl ⟨hz, ad, rfl, by simpa [Value.ownBlock] using hb⟩
theorem C_laws_markByteS_w (w0 : World) (a : Option Addr) (c : Nat) (x : List UInt8) (k : Int) (h0 : 0 ≤ k) (h1 : k ≤ 9000000000000000000) (h : W1 w0 5 (a, c) x) :
    Fn Try.prog 35 #[.slice a x.length c, .int .i64 k] w0 (fun v w' => v = .int .i64 (k + x.length) ∧ Ch (MS [(a, x.length)]) w0 w' ∧ W1 w' 5 (a, c) (marksB k x.length)) := by
  rcases Nat.eq_zero_or_pos x.length with hz | hz
  · obtain rfl : x = [] := List.eq_nil_of_length_eq_zero hz
    refine (C_laws_markByteS_nil w0 a c k h.2.1).mono ?_
    rintro _ _ ⟨rfl, rfl⟩
    exact ⟨by simp, Ch.refl _ _, h⟩
  · rcases h.1 with hw | ⟨lo, hw⟩
    · omega
    · refine (C_laws_markByteS_own w0 a c x lo k h0 h1 h.2.2 hw).mono ?_
      rintro _ w' ⟨rfl, hc, ho⟩
      have hl : (marksB k x.length).length = x.length := marksB_len _ _
      refine ⟨rfl, hc.mono fun b _ hb => ?_, .inr ⟨lo, by rw [hl]; exact ho⟩, by rw [hl]; exact Rd.of_own ho, by rw [hl]; exact h.2.2⟩
      rcases a with _ | ad
      · cases hb
      · exact .inl ⟨hz, ad, rfl, by simpa [Value.ownBlock] using hb⟩

theorem C_laws_markIntS_own (w0 : World) (a : Option Addr) (c : Nat) (x : List Int) (lo : Nat) (k : Int) (h0 : 0 ≤ k) (h1 : k ≤ 9000000000000000000) (hs : x.length ≤ 1073741824) (r : w0.ownsRow lo 3 1 (.slice a x.length c) x.length (x.map iV)) :
    Fn Try.prog 138 #[(.slice a x.length c), .int .i64 k] w0 (fun v w' => v = .int .i64 (k + x.length) ∧ Ch (fun b => (Value.slice a x.length c).ownBlock = some b) w0 w' ∧ w'.ownsRow lo 3 1 (.slice a x.length c) x.length ((marksI k x.length).map iV)) := by
 refine fn_of (n := 19) (l := [(.slice a x.length c), (.int .i64 k), undef, undef, undef, undef, undef, undef, undef, undef, undef, undef, undef, undef, undef, undef, undef, undef, undef]) Try.func138 rfl rfl (by kernel_rfl) rfl ?_
 refine sr ?_
 refine aw (vi 0) ?_
 refine n4 ?_
 refine aw (vi 0) ?_
 refine wl_nil <| wq_then <| wc_block ?_
 refine wc_norm [(vs a x.length c), (vi k), U, U, (vi 0), (vi 0), U, U, U, U, U, U, U, U, U, U, U, U, U] rfl ⟨rfl, rfl, rfl, rfl, rfl, rfl, rfl, rfl, rfl, rfl, rfl, rfl, rfl, rfl, rfl, rfl, rfl, rfl, rfl, trivial⟩ ?_
 refine wc_loop (fun e' w' => ∃ (i : Nat) (u6x u7x u8x u9x u10x u11x u12x u13x u14x u15x u16x u17x : Value), e' = lst [(vs a x.length c), (vi (k + ((i : Nat) : Int))), U, U, (vi 0), (vi ((i : Nat) : Int)), u6x, u7x, u8x, u9x, u10x, u11x, u12x, u13x, u14x, u15x, u16x, u17x, U] ∧ i ≤ x.length ∧ Ch (fun b => (Value.slice a x.length c).ownBlock = some b) w0 w' ∧ w'.ownsRow lo 3 1 (.slice a x.length c) x.length ((marksI k i ++ x.drop i).map iV)) (fun e' _ => x.length - (intOf (e' 5)).toNat) ?_ ?_
 ·exact ⟨0, U, U, U, U, U, U, U, U, U, U, U, U, congrArg (fun (p : Value) => lst [(vs a x.length c), p, U, U, (vi 0), (vi 0), U, U, U, U, U, U, U, U, U, U, U, U, U]) (congrArg (Value.int .i64) (show k = k + ((0 : Nat) : Int) by omega)), Nat.zero_le _, Ch.refl _ _, by simpa [marksI] using r⟩
 ·rintro _ w1 ⟨i, u6x, u7x, u8x, u9x, u10x, u11x, u12x, u13x, u14x, u15x, u16x, u17x, rfl, hi, hc, ho⟩
  refine wc_seq <| sr ?_
  refine mw (vi ((i : Nat) : Int)) ?_
  refine mw (vs a x.length c) ?_
  refine ln wN slTy_32 (Rd.of_own ho) ?_
  refine pu (vb (decide (((i : Nat) : Int) < (x.length : Int)))) wN ?_
  refine n2 ?_
  rcases bf (decide (((i : Nat) : Int) < (x.length : Int))) with h101 | h101
  ·have q105 := of_decide_eq_false h101
   refine cf h101 ?_
   refine wc_exit <| wq_then_exit <| wq_then_exit <| wq_blk_exit <| wq_then <| sr ?_
   refine mw (vi (k + ((i : Nat) : Int))) ?_
   refine aw (vi (k + ((i : Nat) : Int))) ?_
   refine n3 ?_
   have hI : i = x.length := by omega
   subst hI
   refine ret_1 (.inl rfl) (vi (k + ((x.length : Nat) : Int))) rfl rfl ⟨rfl, hc, ?_⟩
   simpa using ho
  have q102 := of_decide_eq_true h101
  refine ct h101 ?_
  refine wc_skip <| wq_then <| wc_seq <| wc_block <| sr ?_
  refine mw (vs a x.length c) ?_
  refine mw (vi ((i : Nat) : Int)) ?_
  refine mw (vi (k + ((i : Nat) : Int))) ?_
  refine wl_index (v := (vs a x.length c)) wN ((i : Nat) : Int) rfl rfl rfl slTy_32 rfl rfl (Rd.of_own ho) (by first | omega | (simp only [List.length_cons, List.length_nil, List.length_replicate, List.length_append, List.length_take, List.length_set, List.length_map]; omega)) (by first | omega | (simp only [List.length_cons, List.length_nil, List.length_replicate, List.length_append, List.length_take, List.length_set, List.length_map]; omega)) ?_
  refine wl_storeI ((marksI k i ++ x.drop i)) i ((k + ((i : Nat) : Int))) wN rfl rfl rfl (by simp) rfl sizeOf_3 ho (by simp only [List.length_append, List.length_drop, marksI_len]; omega) ?_
  intro w2 k103 o104
  refine wl_nil <| wq_then <| wc_region ?_
  refine mw (vi (k + ((i : Nat) : Int))) ?_
  refine ar ((k + ((i : Nat) : Int)) + 1) wN ?_
  refine aw (vi ((k + ((i : Nat) : Int)) + 1)) ?_
  refine wl_nil <| wq_blk_normal <| wq_then <| wc_region ?_
  refine mw (vi ((i : Nat) : Int)) ?_
  refine ar (((i : Nat) : Int) + 1) wN ?_
  refine aw (vi (((i : Nat) : Int) + 1)) ?_
  refine wl_nil ?_
  have hE : (((marksI k i ++ x.drop i)).set i ((k + ((i : Nat) : Int)))) = marksI k (i + 1) ++ x.drop (i + 1) := by
   rw [List.set_append_right _ _ (by rw [marksI_len]; omega), marksI_len, Nat.sub_self, List.drop_eq_getElem_cons (by omega), List.set_cons_zero, marksI_snoc]
   simp
  rw [hE] at o104
  exact wq_loopN (w0 := w1) [(vs a x.length c), (vi (k + ((i + 1 : Nat) : Int))), U, U, (vi 0), (vi ((i + 1 : Nat) : Int)), (vi ((i : Nat) : Int)), (vs a x.length c), (vi (x.length : Int)), (vb (decide (((i : Nat) : Int) < (x.length : Int)))), (vi ((i : Nat) : Int)), (vi (((i : Nat) : Int) + 1)), (vs a x.length c), (vi ((i : Nat) : Int)), (vi (k + ((i : Nat) : Int))), (ve (vs a x.length c) ((((i : Nat) : Int)).toNat * 1)), (vi (k + ((i : Nat) : Int))), (vi ((k + ((i : Nat) : Int)) + 1)), U] rfl ⟨rfl, (congrArg (Value.int .i64) (show (((k + ((i : Nat) : Int)) + 1) : Int) = (k + ((i + 1 : Nat) : Int)) by omega)), rfl, rfl, rfl, (congrArg (Value.int .i64) (show ((((i : Nat) : Int) + 1) : Int) = ((i + 1 : Nat) : Int) by omega)), rfl, rfl, rfl, rfl, rfl, rfl, rfl, rfl, rfl, rfl, rfl, rfl, rfl, trivial⟩ ⟨i + 1, (vi ((i : Nat) : Int)), (vs a x.length c), (vi (x.length : Int)), (vb (decide (((i : Nat) : Int) < (x.length : Int)))), (vi ((i : Nat) : Int)), (vi (((i : Nat) : Int) + 1)), (vs a x.length c), (vi ((i : Nat) : Int)), (vi (k + ((i : Nat) : Int))), (ve (vs a x.length c) ((((i : Nat) : Int)).toNat * 1)), (vi (k + ((i : Nat) : Int))), (vi ((k + ((i : Nat) : Int)) + 1)), rfl, by omega, hc.comp k103 (fun _ _ h => h), o104⟩ (by show x.length - (((i + 1 : Nat) : Int)).toNat < x.length - (((i : Nat) : Int)).toNat; omega)
theorem C_laws_markIntS_nil (w0 : World) (a : Option Addr) (c : Nat) (k : Int) (r : Rd w0 1 (.slice a 0 c) 0 []) :
    Fn Try.prog 138 #[.slice a 0 c, .int .i64 k] w0 (fun v w' => v = .int .i64 k ∧ w' = w0) := by
 have hz : decide ((0 : Int) < ((0 : Nat) : Int)) = false := by decide
 refine fn_of (n := 19) (l := [(.slice a 0 c), (.int .i64 k), undef, undef, undef, undef, undef, undef, undef, undef, undef, undef, undef, undef, undef, undef, undef, undef, undef]) Try.func138 rfl rfl (by kernel_rfl) rfl ?_
 refine sr ?_
 refine aw (vi 0) ?_
 refine n4 ?_
 refine aw (vi 0) ?_
 refine wl_nil <| wq_then <| wc_block ?_
 refine wc_norm [(vs a 0 c), (vi k), U, U, (vi 0), (vi 0), U, U, U, U, U, U, U, U, U, U, U, U, U] rfl ⟨rfl, rfl, rfl, rfl, rfl, rfl, rfl, rfl, rfl, rfl, rfl, rfl, rfl, rfl, rfl, rfl, rfl, rfl, rfl, trivial⟩ ?_
 refine wc_loop (fun e' w' => e' = lst [(vs a 0 c), (vi k), U, U, (vi 0), (vi 0), U, U, U, U, U, U, U, U, U, U, U, U, U] ∧ w' = w0) (fun _ _ => 0) ⟨rfl, rfl⟩ ?_
 rintro _ _ ⟨rfl, rfl⟩
 refine wc_seq <| sr ?_
 refine mw (vi 0) ?_
 refine mw (vs a 0 c) ?_
 refine ln wN slTy_32 r ?_
 refine pu (vb (decide (0 < ((0 : Nat) : Int)))) wN ?_
 refine n2 ?_
 refine cf hz ?_
 refine wc_exit <| wq_then_exit <| wq_then_exit <| wq_blk_exit <| wq_then <| sr ?_
 refine mw (vi k) ?_
 refine aw (vi k) ?_
 refine n3 ?_
 exact ret_1 (.inl rfl) (vi k) rfl rfl ⟨rfl, rfl⟩
theorem C_laws_markIntS (w0 : World) (a : Option Addr) (c : Nat) (x : List Int) (k : Int) (h0 : 0 ≤ k) (h1 : k ≤ 9000000000000000000) (hs : x.length ≤ 1073741824) (r : Rd w0 1 (.slice a x.length c) x.length (x.map iV)) (hw : Wp w0 3 a x.length c (x.map iV)) :
    Fn Try.prog 138 #[.slice a x.length c, .int .i64 k] w0 (fun v w' => v = .int .i64 (k + x.length) ∧ Ch (MS [(a, x.length)]) w0 w' ∧ Rd w' 1 (.slice a x.length c) x.length ((marksI k x.length).map iV)) := by
  rcases Nat.eq_zero_or_pos x.length with hz | hz
  · obtain rfl : x = [] := List.eq_nil_of_length_eq_zero hz
    refine (C_laws_markIntS_nil w0 a c k r).mono ?_
    rintro _ _ ⟨rfl, rfl⟩
    exact ⟨by simp, Ch.refl _ _, r⟩
  · rcases hw with hw | ⟨lo, hw⟩
    · omega
    · refine (C_laws_markIntS_own w0 a c x lo k h0 h1 hs hw).mono ?_
      rintro _ w' ⟨rfl, hc, ho⟩
      refine ⟨rfl, hc.mono fun b _ hb => ?_, Rd.of_own ho⟩
      rcases a with _ | ad
      · cases hb
      · exact .inl ⟨hz, ad, rfl, by simpa [Value.ownBlock] using hb⟩

theorem C_laws_markWin (w0 : World) (a1 : Option Addr) (c1 : Nat) (x : PWin) (k : Int) (h0 : 0 ≤ k) (h1 : k ≤ 8800000000000000000) (s1 : x.Bits.length ≤ 1073741824) (r1 : Rd w0 1 (.slice a1 x.Bits.length c1) x.Bits.length (x.Bits.map iV)) (p1 : Wp w0 3 a1 x.Bits.length c1 (x.Bits.map iV)) (ap : Aps [(a1, c1)]) :
    Fn Try.prog 105 #[(va (L_34 x a1 c1)), .int .i64 k] w0 (fun v w' => v = .int .i64 (k + (x.Bits.length : Int)) ∧ Ch (MS [(a1, x.Bits.length)]) w0 w' ∧ Rd w' 1 (.slice a1 x.Bits.length c1) x.Bits.length ((marksI k x.Bits.length).map iV)) := by
 refine fn_of (n := 10) (l := [(va (L_34 x a1 c1)), (vi k), U, U, U, U, U, U, U, U]) Try.func105 rfl rfl (by kernel_rfl) rfl ?_
 refine sr ?_
 refine bx (L_34 x a1 c1) wN ?_
 intro g201 w1 p202 p203 k204 b205
 refine aw (vi 0) ?_
 refine nx ?_
 refine pu (vp g201 1) wN ?_
 refine ld (vs a1 x.Bits.length c1) wN isAgg_32 b205 ?_
 refine mw (vi k) ?_
 have r206 := (r1.kp k204)
 have wp207 : Wp w1 3 a1 x.Bits.length c1 _ 1 := (Wp.kp p1 k204)
 refine cl wN (C_laws_markIntS w1 a1 c1 x.Bits k (by omega) (by omega) s1 r206 wp207) ?_
 rintro _ w2 ⟨rfl, k208, r209⟩
 refine aw (vi (k + (x.Bits.length : Int))) ?_
 refine nx ?_
 refine mw (vi (k + (x.Bits.length : Int))) ?_
 refine aw (vi (k + (x.Bits.length : Int))) ?_
 refine n3 ?_
 exact ret_1 (.inl rfl) (vi (k + (x.Bits.length : Int))) rfl rfl ⟨rfl, (((Ch.refl (MS [(a1, x.Bits.length)]) w0).comp k204 (fun _ _ h => h.elim)).comp k208 (fun _ _ h => ms_sub [] [] h)), r209⟩

theorem C_laws_markEp (w0 : World) (a1 : Option Addr) (c1 : Nat) (a2 : Option Addr) (c2 : Nat) (x : PEp) (k : Int) (h0 : 0 ≤ k) (h1 : k ≤ 8700000000000000000) (s1 : x.Key.length ≤ 1073741824) (r1 : Rd w0 1 (.slice a1 x.Key.length c1) x.Key.length (x.Key.map bV)) (p1 : Wp w0 5 a1 x.Key.length c1 (x.Key.map bV)) (s2 : x.Win.Bits.length ≤ 1073741824) (r2 : Rd w0 1 (.slice a2 x.Win.Bits.length c2) x.Win.Bits.length (x.Win.Bits.map iV)) (p2 : Wp w0 3 a2 x.Win.Bits.length c2 (x.Win.Bits.map iV)) (ap : Aps [(a1, c1), (a2, c2)]) :
    Fn Try.prog 70 #[(va (L_36 x a1 c1 a2 c2)), .int .i64 k] w0 (fun v w' => v = .int .i64 ((k + (x.Key.length : Int)) + (x.Win.Bits.length : Int)) ∧ Ch (MS [(a1, x.Key.length), (a2, x.Win.Bits.length)]) w0 w' ∧ Rd w' 1 (.slice a1 x.Key.length c1) x.Key.length ((marksB k x.Key.length).map bV) ∧ Rd w' 1 (.slice a2 x.Win.Bits.length c2) x.Win.Bits.length ((marksI (k + (x.Key.length : Int)) x.Win.Bits.length).map iV)) := by
 refine fn_of (n := 14) (l := [(va (L_36 x a1 c1 a2 c2)), (vi k), U, U, U, U, U, U, U, U, U, U, U, U]) Try.func70 rfl rfl (by kernel_rfl) rfl ?_
 refine sr ?_
 refine bx (L_36 x a1 c1 a2 c2) wN ?_
 intro g201 w1 p202 p203 k204 b205
 refine aw (vi 0) ?_
 refine nx ?_
 refine pu (vp g201 1) wN ?_
 refine ld (vs a1 x.Key.length c1) wN isAgg_22 b205 ?_
 refine mw (vi k) ?_
 have r206 := (r1.kp k204)
 have wp207 : Wp w1 5 a1 x.Key.length c1 _ 1 := (Wp.kp p1 k204)
 refine cl wN (C_laws_markByteS w1 a1 c1 x.Key k (by omega) (by omega) s1 r206 wp207) ?_
 rintro _ w2 ⟨rfl, k208, r209⟩
 refine aw (vi (k + (x.Key.length : Int))) ?_
 refine nx ?_
 refine pu (vp g201 3) wN ?_
 have b210 := (b205.ch k208 (ms_lo (ms_lo_cons (fun hn x hx hb => by have := Wp.lt p1 hn x hx; have := Nat.le_trans (Nat.le_refl w0.heap.size) p202; omega) ms_lo_nil)))
 refine lN (L_34 x.Win a2 c2) wN isAgg_34 sizeOf_34 b210 ?_
 refine mw (vi (k + (x.Key.length : Int))) ?_
 have r211 := (Rd.ms (l := [(a1, x.Key.length, c1)]) (r2.kp k204) rfl k208 (ap_cons (rd_cap r206) (ap.1.1) ap_nil))
 have wp212 : Wp w2 3 a2 x.Win.Bits.length c2 _ 1 := (Wp.ms (l := [(a1, x.Key.length, c1)]) (Wp.kp p2 k204) (rd_cap r211) rfl k208 (ap_cons (rd_cap r206) (ap.1.1) ap_nil))
 refine cl wN (C_laws_markWin w2 a2 c2 x.Win (k + (x.Key.length : Int)) (by omega) (by omega) s2 r211 wp212 ⟨trivial, trivial⟩) ?_
 rintro _ w3 ⟨rfl, k213, r214⟩
 refine aw (vi ((k + (x.Key.length : Int)) + (x.Win.Bits.length : Int))) ?_
 refine nx ?_
 refine mw (vi ((k + (x.Key.length : Int)) + (x.Win.Bits.length : Int))) ?_
 refine aw (vi ((k + (x.Key.length : Int)) + (x.Win.Bits.length : Int))) ?_
 refine n3 ?_
 have r215 := (Rd.ms (l := [(a2, x.Win.Bits.length, c2)]) r209 rfl k213 (ap_cons (rd_cap r211) (ap.1.1).symm ap_nil))
 exact ret_1 (.inl rfl) (vi ((k + (x.Key.length : Int)) + (x.Win.Bits.length : Int))) rfl rfl ⟨rfl, ((((Ch.refl (MS [(a1, x.Key.length), (a2, x.Win.Bits.length)]) w0).comp k204 (fun _ _ h => h.elim)).comp k208 (fun _ _ h => ms_sub [] [(a2, x.Win.Bits.length)] h)).comp k213 (fun _ _ h => ms_sub [(a1, x.Key.length)] [] h)), r215, r214⟩

theorem C_laws_markChan (w0 : World) (a1 : Option Addr) (c1 : Nat) (a2 : Option Addr) (c2 : Nat) (a3 : Option Addr) (c3 : Nat) (a4 : Option Addr) (c4 : Nat) (a5 : Option Addr) (c5 : Nat) (a6 : Option Addr) (c6 : Nat) (x : PChan) (k : Int) (h0 : 0 ≤ k) (h1 : k ≤ 8600000000000000000) (s1 : x.Sn.length ≤ 1073741824) (r1 : Rd w0 1 (.slice a1 x.Sn.length c1) x.Sn.length (x.Sn.map bV)) (p1 : Wp w0 5 a1 x.Sn.length c1 (x.Sn.map bV)) (s2 : x.Cur.Key.length ≤ 1073741824) (r2 : Rd w0 1 (.slice a2 x.Cur.Key.length c2) x.Cur.Key.length (x.Cur.Key.map bV)) (p2 : Wp w0 5 a2 x.Cur.Key.length c2 (x.Cur.Key.map bV)) (s3 : x.Cur.Win.Bits.length ≤ 1073741824) (r3 : Rd w0 1 (.slice a3 x.Cur.Win.Bits.length c3) x.Cur.Win.Bits.length (x.Cur.Win.Bits.map iV)) (p3 : Wp w0 3 a3 x.Cur.Win.Bits.length c3 (x.Cur.Win.Bits.map iV)) (s4 : x.Old.Key.length ≤ 1073741824) (r4 : Rd w0 1 (.slice a4 x.Old.Key.length c4) x.Old.Key.length (x.Old.Key.map bV)) (p4 : Wp w0 5 a4 x.Old.Key.length c4 (x.Old.Key.map bV)) (s5 : x.Old.Win.Bits.length ≤ 1073741824) (r5 : Rd w0 1 (.slice a5 x.Old.Win.Bits.length c5) x.Old.Win.Bits.length (x.Old.Win.Bits.map iV)) (p5 : Wp w0 3 a5 x.Old.Win.Bits.length c5 (x.Old.Win.Bits.map iV)) (s6 : x.Next.length ≤ 1073741824) (r6 : Rd w0 1 (.slice a6 x.Next.length c6) x.Next.length (x.Next.map bV)) (p6 : Wp w0 5 a6 x.Next.length c6 (x.Next.map bV)) (ap : Aps [(a1, c1), (a2, c2), (a3, c3), (a4, c4), (a5, c5), (a6, c6)]) :
    Fn Try.prog 29 #[(va (L_38 x a1 c1 a2 c2 a3 c3 a4 c4 a5 c5 a6 c6)), .int .i64 k] w0 (fun v w' => v = .int .i64 ((((((k + (x.Sn.length : Int)) + (x.Cur.Key.length : Int)) + (x.Cur.Win.Bits.length : Int)) + (x.Old.Key.length : Int)) + (x.Old.Win.Bits.length : Int)) + (x.Next.length : Int)) ∧ Ch (MS [(a1, x.Sn.length), (a2, x.Cur.Key.length), (a3, x.Cur.Win.Bits.length), (a4, x.Old.Key.length), (a5, x.Old.Win.Bits.length), (a6, x.Next.length)]) w0 w' ∧ Rd w' 1 (.slice a1 x.Sn.length c1) x.Sn.length ((marksB k x.Sn.length).map bV) ∧ Rd w' 1 (.slice a2 x.Cur.Key.length c2) x.Cur.Key.length ((marksB (k + (x.Sn.length : Int)) x.Cur.Key.length).map bV) ∧ Rd w' 1 (.slice a3 x.Cur.Win.Bits.length c3) x.Cur.Win.Bits.length ((marksI ((k + (x.Sn.length : Int)) + (x.Cur.Key.length : Int)) x.Cur.Win.Bits.length).map iV) ∧ Rd w' 1 (.slice a4 x.Old.Key.length c4) x.Old.Key.length ((marksB (((k + (x.Sn.length : Int)) + (x.Cur.Key.length : Int)) + (x.Cur.Win.Bits.length : Int)) x.Old.Key.length).map bV) ∧ Rd w' 1 (.slice a5 x.Old.Win.Bits.length c5) x.Old.Win.Bits.length ((marksI ((((k + (x.Sn.length : Int)) + (x.Cur.Key.length : Int)) + (x.Cur.Win.Bits.length : Int)) + (x.Old.Key.length : Int)) x.Old.Win.Bits.length).map iV) ∧ Rd w' 1 (.slice a6 x.Next.length c6) x.Next.length ((marksB (((((k + (x.Sn.length : Int)) + (x.Cur.Key.length : Int)) + (x.Cur.Win.Bits.length : Int)) + (x.Old.Key.length : Int)) + (x.Old.Win.Bits.length : Int)) x.Next.length).map bV)) := by
 refine fn_of (n := 22) (l := [(va (L_38 x a1 c1 a2 c2 a3 c3 a4 c4 a5 c5 a6 c6)), (vi k), U, U, U, U, U, U, U, U, U, U, U, U, U, U, U, U, U, U, U, U]) Try.func29 rfl rfl (by kernel_rfl) rfl ?_
 refine sr ?_
 refine bx (L_38 x a1 c1 a2 c2 a3 c3 a4 c4 a5 c5 a6 c6) wN ?_
 intro g201 w1 p202 p203 k204 b205
 refine aw (vi 0) ?_
 refine nx ?_
 refine pu (vp g201 1) wN ?_
 refine ld (vs a1 x.Sn.length c1) wN isAgg_22 b205 ?_
 refine mw (vi k) ?_
 have r206 := (r1.kp k204)
 have wp207 : Wp w1 5 a1 x.Sn.length c1 _ 1 := (Wp.kp p1 k204)
 refine cl wN (C_laws_markByteS w1 a1 c1 x.Sn k (by omega) (by omega) s1 r206 wp207) ?_
 rintro _ w2 ⟨rfl, k208, r209⟩
 refine aw (vi (k + (x.Sn.length : Int))) ?_
 refine nx ?_
 refine pu (vp g201 2) wN ?_
 have b210 := (b205.ch k208 (ms_lo (ms_lo_cons (fun hn x hx hb => by have := Wp.lt p1 hn x hx; have := Nat.le_trans (Nat.le_refl w0.heap.size) p202; omega) ms_lo_nil)))
 refine lN (L_36 x.Cur a2 c2 a3 c3) wN isAgg_36 sizeOf_36 b210 ?_
 refine mw (vi (k + (x.Sn.length : Int))) ?_
 have r211 := (Rd.ms (l := [(a1, x.Sn.length, c1)]) (r2.kp k204) rfl k208 (ap_cons (rd_cap r206) (ap.1.1) ap_nil))
 have r212 := (Rd.ms (l := [(a1, x.Sn.length, c1)]) (r3.kp k204) rfl k208 (ap_cons (rd_cap r206) (ap.1.2.1) ap_nil))
 have wp213 : Wp w2 5 a2 x.Cur.Key.length c2 _ 1 := (Wp.ms (l := [(a1, x.Sn.length, c1)]) (Wp.kp p2 k204) (rd_cap r211) rfl k208 (ap_cons (rd_cap r206) (ap.1.1) ap_nil))
 have wp214 : Wp w2 3 a3 x.Cur.Win.Bits.length c3 _ 1 := (Wp.ms (l := [(a1, x.Sn.length, c1)]) (Wp.kp p3 k204) (rd_cap r212) rfl k208 (ap_cons (rd_cap r206) (ap.1.2.1) ap_nil))
 refine cl wN (C_laws_markEp w2 a2 c2 a3 c3 x.Cur (k + (x.Sn.length : Int)) (by omega) (by omega) s2 r211 wp213 s3 r212 wp214 ⟨⟨(ap.2.1.1), trivial⟩, ⟨trivial, trivial⟩⟩) ?_
 rintro _ w3 ⟨rfl, k215, r216, r217⟩
 refine aw (vi (((k + (x.Sn.length : Int)) + (x.Cur.Key.length : Int)) + (x.Cur.Win.Bits.length : Int))) ?_
 refine nx ?_
 refine pu (vp g201 7) wN ?_
 have b218 := (b210.ch k215 (ms_lo (ms_lo_cons (fun hn x hx hb => by have := Wp.lt p2 hn x hx; have := Nat.le_trans (Nat.le_refl w0.heap.size) p202; omega) (ms_lo_cons (fun hn x hx hb => by have := Wp.lt p3 hn x hx; have := Nat.le_trans (Nat.le_refl w0.heap.size) p202; omega) ms_lo_nil))))
 refine lN (L_36 x.Old a4 c4 a5 c5) wN isAgg_36 sizeOf_36 b218 ?_
 refine mw (vi (((k + (x.Sn.length : Int)) + (x.Cur.Key.length : Int)) + (x.Cur.Win.Bits.length : Int))) ?_
 have r219 := (Rd.ms (l := [(a2, x.Cur.Key.length, c2), (a3, x.Cur.Win.Bits.length, c3)]) (Rd.ms (l := [(a1, x.Sn.length, c1)]) (r4.kp k204) rfl k208 (ap_cons (rd_cap r206) (ap.1.2.2.1) ap_nil)) rfl k215 (ap_cons (rd_cap r211) (ap.2.1.2.1) (ap_cons (rd_cap r212) (ap.2.2.1.1) ap_nil)))
 have r220 := (Rd.ms (l := [(a2, x.Cur.Key.length, c2), (a3, x.Cur.Win.Bits.length, c3)]) (Rd.ms (l := [(a1, x.Sn.length, c1)]) (r5.kp k204) rfl k208 (ap_cons (rd_cap r206) (ap.1.2.2.2.1) ap_nil)) rfl k215 (ap_cons (rd_cap r211) (ap.2.1.2.2.1) (ap_cons (rd_cap r212) (ap.2.2.1.2.1) ap_nil)))
 have wp221 : Wp w3 5 a4 x.Old.Key.length c4 _ 1 := (Wp.ms (l := [(a2, x.Cur.Key.length, c2), (a3, x.Cur.Win.Bits.length, c3)]) (Wp.ms (l := [(a1, x.Sn.length, c1)]) (Wp.kp p4 k204) (rd_cap r219) rfl k208 (ap_cons (rd_cap r206) (ap.1.2.2.1) ap_nil)) (rd_cap r219) rfl k215 (ap_cons (rd_cap r211) (ap.2.1.2.1) (ap_cons (rd_cap r212) (ap.2.2.1.1) ap_nil)))
 have wp222 : Wp w3 3 a5 x.Old.Win.Bits.length c5 _ 1 := (Wp.ms (l := [(a2, x.Cur.Key.length, c2), (a3, x.Cur.Win.Bits.length, c3)]) (Wp.ms (l := [(a1, x.Sn.length, c1)]) (Wp.kp p5 k204) (rd_cap r220) rfl k208 (ap_cons (rd_cap r206) (ap.1.2.2.2.1) ap_nil)) (rd_cap r220) rfl k215 (ap_cons (rd_cap r211) (ap.2.1.2.2.1) (ap_cons (rd_cap r212) (ap.2.2.1.2.1) ap_nil)))
 refine cl wN (C_laws_markEp w3 a4 c4 a5 c5 x.Old (((k + (x.Sn.length : Int)) + (x.Cur.Key.length : Int)) + (x.Cur.Win.Bits.length : Int)) (by omega) (by omega) s4 r219 wp221 s5 r220 wp222 ⟨⟨(ap.2.2.2.1.1), trivial⟩, ⟨trivial, trivial⟩⟩) ?_
 rintro _ w4 ⟨rfl, k223, r224, r225⟩
 refine aw (vi (((((k + (x.Sn.length : Int)) + (x.Cur.Key.length : Int)) + (x.Cur.Win.Bits.length : Int)) + (x.Old.Key.length : Int)) + (x.Old.Win.Bits.length : Int))) ?_
 refine nx ?_
 refine pu (vp g201 14) wN ?_
 have b226 := (b218.ch k223 (ms_lo (ms_lo_cons (fun hn x hx hb => by have := Wp.lt p4 hn x hx; have := Nat.le_trans (Nat.le_refl w0.heap.size) p202; omega) (ms_lo_cons (fun hn x hx hb => by have := Wp.lt p5 hn x hx; have := Nat.le_trans (Nat.le_refl w0.heap.size) p202; omega) ms_lo_nil))))
 refine ld (vs a6 x.Next.length c6) wN isAgg_22 b226 ?_
 refine mw (vi (((((k + (x.Sn.length : Int)) + (x.Cur.Key.length : Int)) + (x.Cur.Win.Bits.length : Int)) + (x.Old.Key.length : Int)) + (x.Old.Win.Bits.length : Int))) ?_
 have r227 := (Rd.ms (l := [(a4, x.Old.Key.length, c4), (a5, x.Old.Win.Bits.length, c5)]) (Rd.ms (l := [(a2, x.Cur.Key.length, c2), (a3, x.Cur.Win.Bits.length, c3)]) (Rd.ms (l := [(a1, x.Sn.length, c1)]) (r6.kp k204) rfl k208 (ap_cons (rd_cap r206) (ap.1.2.2.2.2.1) ap_nil)) rfl k215 (ap_cons (rd_cap r211) (ap.2.1.2.2.2.1) (ap_cons (rd_cap r212) (ap.2.2.1.2.2.1) ap_nil))) rfl k223 (ap_cons (rd_cap r219) (ap.2.2.2.1.2.1) (ap_cons (rd_cap r220) (ap.2.2.2.2.1.1) ap_nil)))
 have wp228 : Wp w4 5 a6 x.Next.length c6 _ 1 := (Wp.ms (l := [(a4, x.Old.Key.length, c4), (a5, x.Old.Win.Bits.length, c5)]) (Wp.ms (l := [(a2, x.Cur.Key.length, c2), (a3, x.Cur.Win.Bits.length, c3)]) (Wp.ms (l := [(a1, x.Sn.length, c1)]) (Wp.kp p6 k204) (rd_cap r227) rfl k208 (ap_cons (rd_cap r206) (ap.1.2.2.2.2.1) ap_nil)) (rd_cap r227) rfl k215 (ap_cons (rd_cap r211) (ap.2.1.2.2.2.1) (ap_cons (rd_cap r212) (ap.2.2.1.2.2.1) ap_nil))) (rd_cap r227) rfl k223 (ap_cons (rd_cap r219) (ap.2.2.2.1.2.1) (ap_cons (rd_cap r220) (ap.2.2.2.2.1.1) ap_nil)))
 refine cl wN (C_laws_markByteS w4 a6 c6 x.Next (((((k + (x.Sn.length : Int)) + (x.Cur.Key.length : Int)) + (x.Cur.Win.Bits.length : Int)) + (x.Old.Key.length : Int)) + (x.Old.Win.Bits.length : Int)) (by omega) (by omega) s6 r227 wp228) ?_
 rintro _ w5 ⟨rfl, k229, r230⟩
 refine aw (vi ((((((k + (x.Sn.length : Int)) + (x.Cur.Key.length : Int)) + (x.Cur.Win.Bits.length : Int)) + (x.Old.Key.length : Int)) + (x.Old.Win.Bits.length : Int)) + (x.Next.length : Int))) ?_
 refine nx ?_
 refine mw (vi ((((((k + (x.Sn.length : Int)) + (x.Cur.Key.length : Int)) + (x.Cur.Win.Bits.length : Int)) + (x.Old.Key.length : Int)) + (x.Old.Win.Bits.length : Int)) + (x.Next.length : Int))) ?_
 refine aw (vi ((((((k + (x.Sn.length : Int)) + (x.Cur.Key.length : Int)) + (x.Cur.Win.Bits.length : Int)) + (x.Old.Key.length : Int)) + (x.Old.Win.Bits.length : Int)) + (x.Next.length : Int))) ?_
 refine n3 ?_
 have r231 := (Rd.ms (l := [(a6, x.Next.length, c6)]) (Rd.ms (l := [(a4, x.Old.Key.length, c4), (a5, x.Old.Win.Bits.length, c5)]) (Rd.ms (l := [(a2, x.Cur.Key.length, c2), (a3, x.Cur.Win.Bits.length, c3)]) r209 rfl k215 (ap_cons (rd_cap r211) (ap.1.1).symm (ap_cons (rd_cap r212) (ap.1.2.1).symm ap_nil))) rfl k223 (ap_cons (rd_cap r219) (ap.1.2.2.1).symm (ap_cons (rd_cap r220) (ap.1.2.2.2.1).symm ap_nil))) rfl k229 (ap_cons (rd_cap r227) (ap.1.2.2.2.2.1).symm ap_nil))
 have r232 := (Rd.ms (l := [(a6, x.Next.length, c6)]) (Rd.ms (l := [(a4, x.Old.Key.length, c4), (a5, x.Old.Win.Bits.length, c5)]) r216 rfl k223 (ap_cons (rd_cap r219) (ap.2.1.2.1).symm (ap_cons (rd_cap r220) (ap.2.1.2.2.1).symm ap_nil))) rfl k229 (ap_cons (rd_cap r227) (ap.2.1.2.2.2.1).symm ap_nil))
 have r233 := (Rd.ms (l := [(a6, x.Next.length, c6)]) (Rd.ms (l := [(a4, x.Old.Key.length, c4), (a5, x.Old.Win.Bits.length, c5)]) r217 rfl k223 (ap_cons (rd_cap r219) (ap.2.2.1.1).symm (ap_cons (rd_cap r220) (ap.2.2.1.2.1).symm ap_nil))) rfl k229 (ap_cons (rd_cap r227) (ap.2.2.1.2.2.1).symm ap_nil))
 have r234 := (Rd.ms (l := [(a6, x.Next.length, c6)]) r224 rfl k229 (ap_cons (rd_cap r227) (ap.2.2.2.1.2.1).symm ap_nil))
 have r235 := (Rd.ms (l := [(a6, x.Next.length, c6)]) r225 rfl k229 (ap_cons (rd_cap r227) (ap.2.2.2.2.1.1).symm ap_nil))
 exact ret_1 (.inl rfl) (vi ((((((k + (x.Sn.length : Int)) + (x.Cur.Key.length : Int)) + (x.Cur.Win.Bits.length : Int)) + (x.Old.Key.length : Int)) + (x.Old.Win.Bits.length : Int)) + (x.Next.length : Int))) rfl rfl ⟨rfl, ((((((Ch.refl (MS [(a1, x.Sn.length), (a2, x.Cur.Key.length), (a3, x.Cur.Win.Bits.length), (a4, x.Old.Key.length), (a5, x.Old.Win.Bits.length), (a6, x.Next.length)]) w0).comp k204 (fun _ _ h => h.elim)).comp k208 (fun _ _ h => ms_sub [] [(a2, x.Cur.Key.length), (a3, x.Cur.Win.Bits.length), (a4, x.Old.Key.length), (a5, x.Old.Win.Bits.length), (a6, x.Next.length)] h)).comp k215 (fun _ _ h => ms_sub [(a1, x.Sn.length)] [(a4, x.Old.Key.length), (a5, x.Old.Win.Bits.length), (a6, x.Next.length)] h)).comp k223 (fun _ _ h => ms_sub [(a1, x.Sn.length), (a2, x.Cur.Key.length), (a3, x.Cur.Win.Bits.length)] [(a6, x.Next.length)] h)).comp k229 (fun _ _ h => ms_sub [(a1, x.Sn.length), (a2, x.Cur.Key.length), (a3, x.Cur.Win.Bits.length), (a4, x.Old.Key.length), (a5, x.Old.Win.Bits.length)] [] h)), r231, r232, r233, r234, r235, r230⟩

theorem C_laws_heldByteS (w0 : World) (v_x_a : Value) (x_a : List UInt8) (r_x_a : R_22 w0 v_x_a x_a) (x_k : Int) (pre0 : 0 ≤ x_k) (pre1 : x_k ≤ 9000000000000000000) : Fn Try.prog 71 #[v_x_a, (vi x_k)] w0 (fun v w' => Keep w0 w' ∧ O_3 w' w0.heap.size v (heldB x_a x_k)) := by
 obtain ⟨a1, c2, rfl, r3, s4⟩ := r_x_a
 refine fn_of (n := 22) (l := [(vs a1 x_a.length c2), (vi x_k), U, U, U, U, U, U, U, U, U, U, U, U, U, U, U, U, U, U, U, U]) Try.func71 rfl rfl (by kernel_rfl) rfl ?_
 refine sr ?_
 refine aw (vi 0) ?_
 refine n4 ?_
 refine aw (vi 0) ?_
 refine wl_nil <| wq_then <| wc_block ?_
 refine wc_loopQ (fun e => [(vs a1 x_a.length c2), (vi (x_k + ((0 : Nat) : Int))), e 2, e 3, e 4, (vi ((0 : Nat) : Int)), e 6, e 7, e 8, e 9, e 10, e 11, e 12, e 13, e 14, e 15, e 16, e 17, e 18, e 19, e 20, U]) rfl ⟨rfl, (congrArg (Value.int .i64) (show (x_k : Int) = (x_k + ((0 : Nat) : Int)) by omega)), rfl, rfl, rfl, (congrArg (Value.int .i64) (show (0 : Int) = ((0 : Nat) : Int) by omega)), rfl, rfl, rfl, rfl, rfl, rfl, rfl, rfl, rfl, rfl, rfl, rfl, rfl, rfl, rfl, rfl, trivial⟩ (fun e' w' => ∃ (i : Nat) (u6 : Nat → Value), e' = lst [(vs a1 x_a.length c2), (vi (x_k + ((i : Nat) : Int))), (u6 0), (u6 1), (u6 2), (vi ((i : Nat) : Int)), (u6 3), (u6 4), (u6 5), (u6 6), (u6 7), (u6 8), (u6 9), (u6 10), (u6 11), (u6 12), (u6 13), (u6 14), (u6 15), (u6 16), (u6 17), U] ∧ Ch (fun k => w0.heap.size ≤ k) w0 w' ∧ Ch (fun k => w0.heap.size ≤ k) w0 w' ∧ i ≤ x_a.length ∧ heldB x_a x_k = heldB (x_a.drop i) (x_k + ((i : Nat) : Int))) (fun e' _ => x_a.length - ((intOf (e' 5))).toNat) ?_ ?_
 ·exact fun u => ⟨0, (unL [u 2, u 3, u 4, u 6, u 7, u 8, u 9, u 10, u 11, u 12, u 13, u 14, u 15, u 16, u 17, u 18, u 19, u 20]), rfl, (Ch.base w0), (Ch.refl (fun k => w0.heap.size ≤ k) w0), (by omega), (by first | exact heldB_next (by assumption) (by omega) (by assumption) | simp)⟩
 ·rintro _ w1 ⟨i, u6, rfl, m7, k8, i9, i10⟩
  refine wc_seq <| sr ?_
  refine mw (vi ((i : Nat) : Int)) ?_
  refine mw (vs a1 x_a.length c2) ?_
  refine ln wN slTy_22 (r3.from0 m7) ?_
  refine pu (vb (decide (((i : Nat) : Int) < (x_a.length : Int)))) wN ?_
  refine n2 ?_
  rcases bf (decide (((i : Nat) : Int) < (x_a.length : Int))) with h11 | h11
  ·have q17 := of_decide_eq_false h11
   refine cf h11 ?_
   refine wc_exit <| wq_then_exit <| wq_then_exit <| wq_blk_exit <| wq_then <| sr ?_
   refine mw (vi (x_k + ((i : Nat) : Int))) ?_
   refine aw (vi (x_k + ((i : Nat) : Int))) ?_
   refine n3 ?_
   refine rt (vi (x_k + ((i : Nat) : Int))) ?_
   refine ⟨m7.keep0, ?_⟩
   have hF18 : heldB x_a x_k = (x_k + ((i : Nat) : Int)) := by first | exact heldB_ne (by assumption) (by omega) (by assumption) | exact heldB_end (by assumption) (by omega)
   rw [hF18]
   exact rfl
  have q12 := of_decide_eq_true h11
  refine ct h11 ?_
  refine wc_skip <| wq_then <| wc_seq <| wc_block <| wc_seq <| sr ?_
  refine mw (vs a1 x_a.length c2) ?_
  refine mw (vi ((i : Nat) : Int)) ?_
  refine wl_index (v := (vs a1 x_a.length c2)) wN ((i : Nat) : Int) rfl rfl rfl slTy_22 rfl rfl (r3.from0 m7) (by first | omega | (simp only [List.length_cons, List.length_nil, List.length_replicate, List.length_append, List.length_take, List.length_set, List.length_map]; omega)) (by first | omega | (simp only [List.length_cons, List.length_nil, List.length_replicate, List.length_append, List.length_take, List.length_set, List.length_map]; omega)) ?_
  refine wl_loadE (bV (x_a.getD i 0)) wN rfl rfl rfl rfl isAgg_5 (r3.from0 m7) (bget (by simp) (by first | omega | (simp only [List.length_cons, List.length_nil, List.length_replicate, List.length_append, List.length_take, List.length_set, List.length_map]; omega))) ?_
  refine mw (vi (x_k + ((i : Nat) : Int))) ?_
  refine wl_conv8 (x_k + ((i : Nat) : Int)) wN rfl rfl (by kernel_rfl) ?_
  refine pu (vb (!(decide (((x_a.getD i 0).toNat : Int) = ((by8 (x_k + ((i : Nat) : Int))).toNat : Int))))) wN ?_
  refine n2 ?_
  rcases bf (decide (((x_a.getD i 0).toNat : Int) = ((by8 (x_k + ((i : Nat) : Int))).toNat : Int))) with h13 | h13
  ·have q15 := of_decide_eq_false h13
   refine ct (congrArg not h13) ?_
   refine sr ?_
   refine aw (vi (-1)) ?_
   refine wl_nil <| wq_then <| wc_ret <| wq_then_ret <| wq_blk_ret <| wq_then_ret <| wq_then_ret <| wq_blk_ret <| wq_then_ret ?_
   refine rt (vi (-1)) ?_
   refine ⟨m7.keep0, ?_⟩
   have hF16 : heldB x_a x_k = (-1) := by first | exact heldB_ne (by assumption) (by omega) (by assumption) | exact heldB_end (by assumption) (by omega)
   rw [hF16]
   exact rfl
  have q14 := of_decide_eq_true h13
  refine cf (congrArg not h13) ?_
  refine wc_skip <| wq_then <| wc_region ?_
  refine mw (vi (x_k + ((i : Nat) : Int))) ?_
  refine ar ((x_k + ((i : Nat) : Int)) + 1) wN ?_
  refine aw (vi ((x_k + ((i : Nat) : Int)) + 1)) ?_
  refine wl_nil <| wq_blk_normal <| wq_then <| wc_region ?_
  refine mw (vi ((i : Nat) : Int)) ?_
  refine ar (((i : Nat) : Int) + 1) wN ?_
  refine aw (vi (((i : Nat) : Int) + 1)) ?_
  refine wl_nil ?_
  refine wq_loopQ (w0 := w1) (fun e => [(vs a1 x_a.length c2), (vi (x_k + (((i + 1) : Nat) : Int))), e 2, e 3, e 4, (vi (((i + 1) : Nat) : Int)), e 6, e 7, e 8, e 9, e 10, e 11, e 12, e 13, e 14, e 15, e 16, e 17, e 18, e 19, e 20, U]) rfl ?_ ?_ ?_
  · exact ⟨rfl, (congrArg (Value.int .i64) (show (((x_k + ((i : Nat) : Int)) + 1) : Int) = (x_k + (((i + 1) : Nat) : Int)) by omega)), rfl, rfl, rfl, (congrArg (Value.int .i64) (show ((((i : Nat) : Int) + 1) : Int) = (((i + 1) : Nat) : Int) by omega)), rfl, rfl, rfl, rfl, rfl, rfl, rfl, rfl, rfl, rfl, rfl, rfl, rfl, rfl, rfl, rfl, trivial⟩
  · exact fun u => ⟨(i + 1), (unL [u 2, u 3, u 4, u 6, u 7, u 8, u 9, u 10, u 11, u 12, u 13, u 14, u 15, u 16, u 17, u 18, u 19, u 20]), rfl, m7, ((Ch.refl (fun k => w0.heap.size ≤ k) w0).ext k8 (fun k hk => hk)), (by omega), (by first | exact heldB_next (by assumption) (by omega) (by assumption) | simp)⟩
  · show x_a.length - ((((i + 1) : Nat) : Int)).toNat < x_a.length - (((i : Nat) : Int)).toNat; omega

theorem C_laws_heldIntS (w0 : World) (v_x_a : Value) (x_a : List Int) (r_x_a : R_32 w0 v_x_a x_a) (x_k : Int) (pre0 : 0 ≤ x_k) (pre1 : x_k ≤ 9000000000000000000) : Fn Try.prog 139 #[v_x_a, (vi x_k)] w0 (fun v w' => Keep w0 w' ∧ O_3 w' w0.heap.size v (heldI x_a x_k)) := by
 obtain ⟨a1, c2, rfl, r3, s4⟩ := r_x_a
 refine fn_of (n := 21) (l := [(vs a1 x_a.length c2), (vi x_k), U, U, U, U, U, U, U, U, U, U, U, U, U, U, U, U, U, U, U]) Try.func139 rfl rfl (by kernel_rfl) rfl ?_
 refine sr ?_
 refine aw (vi 0) ?_
 refine n4 ?_
 refine aw (vi 0) ?_
 refine wl_nil <| wq_then <| wc_block ?_
 refine wc_loopQ (fun e => [(vs a1 x_a.length c2), (vi (x_k + ((0 : Nat) : Int))), e 2, e 3, e 4, (vi ((0 : Nat) : Int)), e 6, e 7, e 8, e 9, e 10, e 11, e 12, e 13, e 14, e 15, e 16, e 17, e 18, e 19, U]) rfl ⟨rfl, (congrArg (Value.int .i64) (show (x_k : Int) = (x_k + ((0 : Nat) : Int)) by omega)), rfl, rfl, rfl, (congrArg (Value.int .i64) (show (0 : Int) = ((0 : Nat) : Int) by omega)), rfl, rfl, rfl, rfl, rfl, rfl, rfl, rfl, rfl, rfl, rfl, rfl, rfl, rfl, rfl, trivial⟩ (fun e' w' => ∃ (i : Nat) (u6 : Nat → Value), e' = lst [(vs a1 x_a.length c2), (vi (x_k + ((i : Nat) : Int))), (u6 0), (u6 1), (u6 2), (vi ((i : Nat) : Int)), (u6 3), (u6 4), (u6 5), (u6 6), (u6 7), (u6 8), (u6 9), (u6 10), (u6 11), (u6 12), (u6 13), (u6 14), (u6 15), (u6 16), U] ∧ Ch (fun k => w0.heap.size ≤ k) w0 w' ∧ Ch (fun k => w0.heap.size ≤ k) w0 w' ∧ i ≤ x_a.length ∧ heldI x_a x_k = heldI (x_a.drop i) (x_k + ((i : Nat) : Int))) (fun e' _ => x_a.length - ((intOf (e' 5))).toNat) ?_ ?_
 ·exact fun u => ⟨0, (unL [u 2, u 3, u 4, u 6, u 7, u 8, u 9, u 10, u 11, u 12, u 13, u 14, u 15, u 16, u 17, u 18, u 19]), rfl, (Ch.base w0), (Ch.refl (fun k => w0.heap.size ≤ k) w0), (by omega), (by first | exact heldI_next (by assumption) (by omega) (by assumption) | simp)⟩
 ·rintro _ w1 ⟨i, u6, rfl, m7, k8, i9, i10⟩
  refine wc_seq <| sr ?_
  refine mw (vi ((i : Nat) : Int)) ?_
  refine mw (vs a1 x_a.length c2) ?_
  refine ln wN slTy_32 (r3.from0 m7) ?_
  refine pu (vb (decide (((i : Nat) : Int) < (x_a.length : Int)))) wN ?_
  refine n2 ?_
  rcases bf (decide (((i : Nat) : Int) < (x_a.length : Int))) with h11 | h11
  ·have q17 := of_decide_eq_false h11
   refine cf h11 ?_
   refine wc_exit <| wq_then_exit <| wq_then_exit <| wq_blk_exit <| wq_then <| sr ?_
   refine mw (vi (x_k + ((i : Nat) : Int))) ?_
   refine aw (vi (x_k + ((i : Nat) : Int))) ?_
   refine n3 ?_
   refine rt (vi (x_k + ((i : Nat) : Int))) ?_
   refine ⟨m7.keep0, ?_⟩
   have hF18 : heldI x_a x_k = (x_k + ((i : Nat) : Int)) := by first | exact heldI_ne (by assumption) (by omega) (by assumption) | exact heldI_end (by assumption) (by omega)
   rw [hF18]
   exact rfl
  have q12 := of_decide_eq_true h11
  refine ct h11 ?_
  refine wc_skip <| wq_then <| wc_seq <| wc_block <| wc_seq <| sr ?_
  refine mw (vs a1 x_a.length c2) ?_
  refine mw (vi ((i : Nat) : Int)) ?_
  refine wl_index (v := (vs a1 x_a.length c2)) wN ((i : Nat) : Int) rfl rfl rfl slTy_32 rfl rfl (r3.from0 m7) (by first | omega | (simp only [List.length_cons, List.length_nil, List.length_replicate, List.length_append, List.length_take, List.length_set, List.length_map]; omega)) (by first | omega | (simp only [List.length_cons, List.length_nil, List.length_replicate, List.length_append, List.length_take, List.length_set, List.length_map]; omega)) ?_
  refine wl_loadE (iV (x_a.getD i 0)) wN rfl rfl rfl rfl isAgg_3 (r3.from0 m7) (iget (by simp) (by first | omega | (simp only [List.length_cons, List.length_nil, List.length_replicate, List.length_append, List.length_take, List.length_set, List.length_map]; omega))) ?_
  refine mw (vi (x_k + ((i : Nat) : Int))) ?_
  refine pu (vb (!(decide ((x_a.getD i 0) = (x_k + ((i : Nat) : Int)))))) wN ?_
  refine n2 ?_
  rcases bf (decide ((x_a.getD i 0) = (x_k + ((i : Nat) : Int)))) with h13 | h13
  ·have q15 := of_decide_eq_false h13
   refine ct (congrArg not h13) ?_
   refine sr ?_
   refine aw (vi (-1)) ?_
   refine wl_nil <| wq_then <| wc_ret <| wq_then_ret <| wq_blk_ret <| wq_then_ret <| wq_then_ret <| wq_blk_ret <| wq_then_ret ?_
   refine rt (vi (-1)) ?_
   refine ⟨m7.keep0, ?_⟩
   have hF16 : heldI x_a x_k = (-1) := by first | exact heldI_ne (by assumption) (by omega) (by assumption) | exact heldI_end (by assumption) (by omega)
   rw [hF16]
   exact rfl
  have q14 := of_decide_eq_true h13
  refine cf (congrArg not h13) ?_
  refine wc_skip <| wq_then <| wc_region ?_
  refine mw (vi (x_k + ((i : Nat) : Int))) ?_
  refine ar ((x_k + ((i : Nat) : Int)) + 1) wN ?_
  refine aw (vi ((x_k + ((i : Nat) : Int)) + 1)) ?_
  refine wl_nil <| wq_blk_normal <| wq_then <| wc_region ?_
  refine mw (vi ((i : Nat) : Int)) ?_
  refine ar (((i : Nat) : Int) + 1) wN ?_
  refine aw (vi (((i : Nat) : Int) + 1)) ?_
  refine wl_nil ?_
  refine wq_loopQ (w0 := w1) (fun e => [(vs a1 x_a.length c2), (vi (x_k + (((i + 1) : Nat) : Int))), e 2, e 3, e 4, (vi (((i + 1) : Nat) : Int)), e 6, e 7, e 8, e 9, e 10, e 11, e 12, e 13, e 14, e 15, e 16, e 17, e 18, e 19, U]) rfl ?_ ?_ ?_
  · exact ⟨rfl, (congrArg (Value.int .i64) (show (((x_k + ((i : Nat) : Int)) + 1) : Int) = (x_k + (((i + 1) : Nat) : Int)) by omega)), rfl, rfl, rfl, (congrArg (Value.int .i64) (show ((((i : Nat) : Int) + 1) : Int) = (((i + 1) : Nat) : Int) by omega)), rfl, rfl, rfl, rfl, rfl, rfl, rfl, rfl, rfl, rfl, rfl, rfl, rfl, rfl, rfl, trivial⟩
  · exact fun u => ⟨(i + 1), (unL [u 2, u 3, u 4, u 6, u 7, u 8, u 9, u 10, u 11, u 12, u 13, u 14, u 15, u 16, u 17, u 18, u 19]), rfl, m7, ((Ch.refl (fun k => w0.heap.size ≤ k) w0).ext k8 (fun k hk => hk)), (by omega), (by first | exact heldI_next (by assumption) (by omega) (by assumption) | simp)⟩
  · show x_a.length - ((((i + 1) : Nat) : Int)).toNat < x_a.length - (((i : Nat) : Int)).toNat; omega

def F_laws_heldWin (x_a : PWin) (x_k : Int) : (Int) := bif (decide ((heldI x_a.Bits x_k) < 0)) then ((-1)) else ((heldI x_a.Bits x_k))
theorem C_laws_heldWin (w0 : World) (v_x_a : Value) (x_a : PWin) (r_x_a : R_34 w0 v_x_a x_a) (x_k : Int) (pre0 : 0 ≤ x_k) (pre1 : x_k ≤ 8800000000000000000) : Fn Try.prog 106 #[v_x_a, (vi x_k)] w0 (fun v w' => Keep w0 w' ∧ O_3 w' w0.heap.size v (F_laws_heldWin x_a x_k)) := by
 obtain ⟨a1, c2, rfl, r3, s4⟩ := r_x_a
 refine fn_of (n := 12) (l := [(va (L_34 x_a a1 c2)), (vi x_k), U, U, U, U, U, U, U, U, U, U]) Try.func106 rfl rfl (by kernel_rfl) rfl ?_
 refine sr ?_
 refine bx (L_34 x_a a1 c2) wN ?_
 intro g6 w1 p7 p8 k9 b10
 have m11 := (Ch.base w0).extk k9
 refine aw (vi 0) ?_
 refine nx ?_
 refine pu (vp g6 1) wN ?_
 refine ld (vs a1 x_a.Bits.length c2) wN isAgg_32 b10 ?_
 refine mw (vi x_k) ?_
 refine cl wN (C_laws_heldIntS w1 _ x_a.Bits (mR_32 (r3.from0 m11) s4) x_k (by omega) (by omega)) ?_
 rintro _ w2 ⟨k12, rfl⟩
 have m13 := m11.extk k12
 have q14 := heldI_le x_a.Bits x_k
 refine aw (vi (heldI x_a.Bits x_k)) ?_
 refine n4 ?_
 refine mw (vi (heldI x_a.Bits x_k)) ?_
 refine pu (vb (decide ((heldI x_a.Bits x_k) < 0))) wN ?_
 refine n2 ?_
 rcases bt (decide ((heldI x_a.Bits x_k) < 0)) with h15 | h15
 ·have q16 := of_decide_eq_true h15
  refine ct h15 ?_
  refine sr ?_
  refine aw (vi (-1)) ?_
  refine n1 ?_
  refine rt (vi (-1)) ?_
  refine ⟨m13.keep0, ?_⟩
  have hF17 : F_laws_heldWin x_a x_k = (-1) := by simp only [F_laws_heldWin, h15, cond_true, cond_false]
  rw [hF17]
  exact rfl
 have q18 := of_decide_eq_false h15
 refine cf h15 ?_
 refine y1 ?_
 refine mw (vi (heldI x_a.Bits x_k)) ?_
 refine aw (vi (heldI x_a.Bits x_k)) ?_
 refine n3 ?_
 refine rt (vi (heldI x_a.Bits x_k)) ?_
 refine ⟨m13.keep0, ?_⟩
 have hF19 : F_laws_heldWin x_a x_k = (heldI x_a.Bits x_k) := by simp only [F_laws_heldWin, h15, cond_true, cond_false]
 rw [hF19]
 exact rfl
theorem laws_heldWin_le (x : PWin) (k : Int) : F_laws_heldWin x k = -1 ∨ F_laws_heldWin x k = k + ((x.Bits.length : Int)) := by
  have h0 := heldI_le x.Bits k
  simp only [F_laws_heldWin, cond_eq_ite, decide_eq_true_eq]
  (repeat' split) <;> omega

def F_laws_heldEp (x_a : PEp) (x_k : Int) : (Int) := bif (decide ((heldB x_a.Key x_k) < 0)) then ((-1)) else (bif (decide ((F_laws_heldWin x_a.Win (heldB x_a.Key x_k)) < 0)) then ((-1)) else ((F_laws_heldWin x_a.Win (heldB x_a.Key x_k))))
theorem C_laws_heldEp (w0 : World) (v_x_a : Value) (x_a : PEp) (r_x_a : R_36 w0 v_x_a x_a) (x_k : Int) (pre0 : 0 ≤ x_k) (pre1 : x_k ≤ 8700000000000000000) : Fn Try.prog 72 #[v_x_a, (vi x_k)] w0 (fun v w' => Keep w0 w' ∧ O_3 w' w0.heap.size v (F_laws_heldEp x_a x_k)) := by
 obtain ⟨a1, c2, a6, c7, rfl, r3, s4, r8, s9⟩ := r_x_a
 refine fn_of (n := 18) (l := [(va (L_36 x_a a1 c2 a6 c7)), (vi x_k), U, U, U, U, U, U, U, U, U, U, U, U, U, U, U, U]) Try.func72 rfl rfl (by kernel_rfl) rfl ?_
 refine sr ?_
 refine bx (L_36 x_a a1 c2 a6 c7) wN ?_
 intro g11 w1 p12 p13 k14 b15
 have m16 := (Ch.base w0).extk k14
 refine aw (vi 0) ?_
 refine nx ?_
 refine pu (vp g11 1) wN ?_
 refine ld (vs a1 x_a.Key.length c2) wN isAgg_22 b15 ?_
 refine mw (vi x_k) ?_
 refine cl wN (C_laws_heldByteS w1 _ x_a.Key (mR_22 (r3.from0 m16) s4) x_k (by omega) (by omega)) ?_
 rintro _ w2 ⟨k17, rfl⟩
 have m18 := m16.extk k17
 have q19 := heldB_le x_a.Key x_k
 refine aw (vi (heldB x_a.Key x_k)) ?_
 refine n4 ?_
 refine mw (vi (heldB x_a.Key x_k)) ?_
 refine pu (vb (decide ((heldB x_a.Key x_k) < 0))) wN ?_
 refine n2 ?_
 rcases bt (decide ((heldB x_a.Key x_k) < 0)) with h20 | h20
 ·have q21 := of_decide_eq_true h20
  refine ct h20 ?_
  refine sr ?_
  refine aw (vi (-1)) ?_
  refine n1 ?_
  refine rt (vi (-1)) ?_
  refine ⟨m18.keep0, ?_⟩
  have hF22 : F_laws_heldEp x_a x_k = (-1) := by simp only [F_laws_heldEp, h20, cond_true, cond_false]
  rw [hF22]
  exact rfl
 have q23 := of_decide_eq_false h20
 refine cf h20 ?_
 refine y1 ?_
 refine pu (vp g11 3) wN ?_
 have b24 := (b15.kp k17)
 refine lN (L_34 x_a.Win a6 c7) wN isAgg_34 sizeOf_34 b24 ?_
 refine mw (vi (heldB x_a.Key x_k)) ?_
 refine cl wN (C_laws_heldWin w2 _ x_a.Win (mR_34 (r8.from0 m18) s9) (heldB x_a.Key x_k) (by omega) (by omega)) ?_
 rintro _ w3 ⟨k25, rfl⟩
 have m26 := m18.extk k25
 have q27 := laws_heldWin_le x_a.Win (heldB x_a.Key x_k)
 refine aw (vi (F_laws_heldWin x_a.Win (heldB x_a.Key x_k))) ?_
 refine n4 ?_
 refine mw (vi (F_laws_heldWin x_a.Win (heldB x_a.Key x_k))) ?_
 refine pu (vb (decide ((F_laws_heldWin x_a.Win (heldB x_a.Key x_k)) < 0))) wN ?_
 refine n2 ?_
 rcases bt (decide ((F_laws_heldWin x_a.Win (heldB x_a.Key x_k)) < 0)) with h28 | h28
 ·have q29 := of_decide_eq_true h28
  refine ct h28 ?_
  refine sr ?_
  refine aw (vi (-1)) ?_
  refine n1 ?_
  refine rt (vi (-1)) ?_
  refine ⟨m26.keep0, ?_⟩
  have hF30 : F_laws_heldEp x_a x_k = (-1) := by simp only [F_laws_heldEp, h20, h28, cond_true, cond_false]
  rw [hF30]
  exact rfl
 have q31 := of_decide_eq_false h28
 refine cf h28 ?_
 refine y1 ?_
 refine mw (vi (F_laws_heldWin x_a.Win (heldB x_a.Key x_k))) ?_
 refine aw (vi (F_laws_heldWin x_a.Win (heldB x_a.Key x_k))) ?_
 refine n3 ?_
 refine rt (vi (F_laws_heldWin x_a.Win (heldB x_a.Key x_k))) ?_
 refine ⟨m26.keep0, ?_⟩
 have hF32 : F_laws_heldEp x_a x_k = (F_laws_heldWin x_a.Win (heldB x_a.Key x_k)) := by simp only [F_laws_heldEp, h20, h28, cond_true, cond_false]
 rw [hF32]
 exact rfl
theorem laws_heldEp_le (x : PEp) (k : Int) : F_laws_heldEp x k = -1 ∨ F_laws_heldEp x k = k + ((x.Key.length : Int) + (x.Win.Bits.length : Int)) := by
  have h0 := heldB_le x.Key k
  have h1 := laws_heldWin_le x.Win (heldB x.Key k)
  simp only [F_laws_heldEp, cond_eq_ite, decide_eq_true_eq]
  (repeat' split) <;> omega

def F_laws_heldChan (x_a : PChan) (x_k : Int) : (Int) := bif (decide ((heldB x_a.Sn x_k) < 0)) then ((-1)) else (bif (decide ((F_laws_heldEp x_a.Cur (heldB x_a.Sn x_k)) < 0)) then ((-1)) else (bif (decide ((F_laws_heldEp x_a.Old (F_laws_heldEp x_a.Cur (heldB x_a.Sn x_k))) < 0)) then ((-1)) else (bif (decide ((heldB x_a.Next (F_laws_heldEp x_a.Old (F_laws_heldEp x_a.Cur (heldB x_a.Sn x_k)))) < 0)) then ((-1)) else ((heldB x_a.Next (F_laws_heldEp x_a.Old (F_laws_heldEp x_a.Cur (heldB x_a.Sn x_k))))))))
theorem C_laws_heldChan (w0 : World) (v_x_a : Value) (x_a : PChan) (r_x_a : R_38 w0 v_x_a x_a) (x_k : Int) (pre0 : 0 ≤ x_k) (pre1 : x_k ≤ 8600000000000000000) : Fn Try.prog 30 #[v_x_a, (vi x_k)] w0 (fun v w' => Keep w0 w' ∧ O_3 w' w0.heap.size v (F_laws_heldChan x_a x_k)) := by
 obtain ⟨a1, c2, a6, c7, a11, c12, a16, c17, a21, c22, a26, c27, rfl, r3, s4, r8, s9, r13, s14, r18, s19, r23, s24, r28, s29⟩ := r_x_a
 refine fn_of (n := 30) (l := [(va (L_38 x_a a1 c2 a6 c7 a11 c12 a16 c17 a21 c22 a26 c27)), (vi x_k), U, U, U, U, U, U, U, U, U, U, U, U, U, U, U, U, U, U, U, U, U, U, U, U, U, U, U, U]) Try.func30 rfl rfl (by kernel_rfl) rfl ?_
 refine sr ?_
 refine bx (L_38 x_a a1 c2 a6 c7 a11 c12 a16 c17 a21 c22 a26 c27) wN ?_
 intro g31 w1 p32 p33 k34 b35
 have m36 := (Ch.base w0).extk k34
 refine aw (vi 0) ?_
 refine nx ?_
 refine pu (vp g31 1) wN ?_
 refine ld (vs a1 x_a.Sn.length c2) wN isAgg_22 b35 ?_
 refine mw (vi x_k) ?_
 refine cl wN (C_laws_heldByteS w1 _ x_a.Sn (mR_22 (r3.from0 m36) s4) x_k (by omega) (by omega)) ?_
 rintro _ w2 ⟨k37, rfl⟩
 have m38 := m36.extk k37
 have q39 := heldB_le x_a.Sn x_k
 refine aw (vi (heldB x_a.Sn x_k)) ?_
 refine n4 ?_
 refine mw (vi (heldB x_a.Sn x_k)) ?_
 refine pu (vb (decide ((heldB x_a.Sn x_k) < 0))) wN ?_
 refine n2 ?_
 rcases bt (decide ((heldB x_a.Sn x_k) < 0)) with h40 | h40
 ·have q41 := of_decide_eq_true h40
  refine ct h40 ?_
  refine sr ?_
  refine aw (vi (-1)) ?_
  refine n1 ?_
  refine rt (vi (-1)) ?_
  refine ⟨m38.keep0, ?_⟩
  have hF42 : F_laws_heldChan x_a x_k = (-1) := by simp only [F_laws_heldChan, h40, cond_true, cond_false]
  rw [hF42]
  exact rfl
 have q43 := of_decide_eq_false h40
 refine cf h40 ?_
 refine y1 ?_
 refine pu (vp g31 2) wN ?_
 have b44 := (b35.kp k37)
 refine lN (L_36 x_a.Cur a6 c7 a11 c12) wN isAgg_36 sizeOf_36 b44 ?_
 refine mw (vi (heldB x_a.Sn x_k)) ?_
 refine cl wN (C_laws_heldEp w2 _ x_a.Cur (mR_36 (r8.from0 m38) s9 (r13.from0 m38) s14) (heldB x_a.Sn x_k) (by omega) (by omega)) ?_
 rintro _ w3 ⟨k45, rfl⟩
 have m46 := m38.extk k45
 have q47 := laws_heldEp_le x_a.Cur (heldB x_a.Sn x_k)
 refine aw (vi (F_laws_heldEp x_a.Cur (heldB x_a.Sn x_k))) ?_
 refine n4 ?_
 refine mw (vi (F_laws_heldEp x_a.Cur (heldB x_a.Sn x_k))) ?_
 refine pu (vb (decide ((F_laws_heldEp x_a.Cur (heldB x_a.Sn x_k)) < 0))) wN ?_
 refine n2 ?_
 rcases bt (decide ((F_laws_heldEp x_a.Cur (heldB x_a.Sn x_k)) < 0)) with h48 | h48
 ·have q49 := of_decide_eq_true h48
  refine ct h48 ?_
  refine sr ?_
  refine aw (vi (-1)) ?_
  refine n1 ?_
  refine rt (vi (-1)) ?_
  refine ⟨m46.keep0, ?_⟩
  have hF50 : F_laws_heldChan x_a x_k = (-1) := by simp only [F_laws_heldChan, h40, h48, cond_true, cond_false]
  rw [hF50]
  exact rfl
 have q51 := of_decide_eq_false h48
 refine cf h48 ?_
 refine y1 ?_
 refine pu (vp g31 7) wN ?_
 have b52 := (b44.kp k45)
 refine lN (L_36 x_a.Old a16 c17 a21 c22) wN isAgg_36 sizeOf_36 b52 ?_
 refine mw (vi (F_laws_heldEp x_a.Cur (heldB x_a.Sn x_k))) ?_
 refine cl wN (C_laws_heldEp w3 _ x_a.Old (mR_36 (r18.from0 m46) s19 (r23.from0 m46) s24) (F_laws_heldEp x_a.Cur (heldB x_a.Sn x_k)) (by omega) (by omega)) ?_
 rintro _ w4 ⟨k53, rfl⟩
 have m54 := m46.extk k53
 have q55 := laws_heldEp_le x_a.Old (F_laws_heldEp x_a.Cur (heldB x_a.Sn x_k))
 refine aw (vi (F_laws_heldEp x_a.Old (F_laws_heldEp x_a.Cur (heldB x_a.Sn x_k)))) ?_
 refine n4 ?_
 refine mw (vi (F_laws_heldEp x_a.Old (F_laws_heldEp x_a.Cur (heldB x_a.Sn x_k)))) ?_
 refine pu (vb (decide ((F_laws_heldEp x_a.Old (F_laws_heldEp x_a.Cur (heldB x_a.Sn x_k))) < 0))) wN ?_
 refine n2 ?_
 rcases bt (decide ((F_laws_heldEp x_a.Old (F_laws_heldEp x_a.Cur (heldB x_a.Sn x_k))) < 0)) with h56 | h56
 ·have q57 := of_decide_eq_true h56
  refine ct h56 ?_
  refine sr ?_
  refine aw (vi (-1)) ?_
  refine n1 ?_
  refine rt (vi (-1)) ?_
  refine ⟨m54.keep0, ?_⟩
  have hF58 : F_laws_heldChan x_a x_k = (-1) := by simp only [F_laws_heldChan, h40, h48, h56, cond_true, cond_false]
  rw [hF58]
  exact rfl
 have q59 := of_decide_eq_false h56
 refine cf h56 ?_
 refine y1 ?_
 refine pu (vp g31 14) wN ?_
 have b60 := (b52.kp k53)
 refine ld (vs a26 x_a.Next.length c27) wN isAgg_22 b60 ?_
 refine mw (vi (F_laws_heldEp x_a.Old (F_laws_heldEp x_a.Cur (heldB x_a.Sn x_k)))) ?_
 refine cl wN (C_laws_heldByteS w4 _ x_a.Next (mR_22 (r28.from0 m54) s29) (F_laws_heldEp x_a.Old (F_laws_heldEp x_a.Cur (heldB x_a.Sn x_k))) (by omega) (by omega)) ?_
 rintro _ w5 ⟨k61, rfl⟩
 have m62 := m54.extk k61
 have q63 := heldB_le x_a.Next (F_laws_heldEp x_a.Old (F_laws_heldEp x_a.Cur (heldB x_a.Sn x_k)))
 refine aw (vi (heldB x_a.Next (F_laws_heldEp x_a.Old (F_laws_heldEp x_a.Cur (heldB x_a.Sn x_k))))) ?_
 refine n4 ?_
 refine mw (vi (heldB x_a.Next (F_laws_heldEp x_a.Old (F_laws_heldEp x_a.Cur (heldB x_a.Sn x_k))))) ?_
 refine pu (vb (decide ((heldB x_a.Next (F_laws_heldEp x_a.Old (F_laws_heldEp x_a.Cur (heldB x_a.Sn x_k)))) < 0))) wN ?_
 refine n2 ?_
 rcases bt (decide ((heldB x_a.Next (F_laws_heldEp x_a.Old (F_laws_heldEp x_a.Cur (heldB x_a.Sn x_k)))) < 0)) with h64 | h64
 ·have q65 := of_decide_eq_true h64
  refine ct h64 ?_
  refine sr ?_
  refine aw (vi (-1)) ?_
  refine n1 ?_
  refine rt (vi (-1)) ?_
  refine ⟨m62.keep0, ?_⟩
  have hF66 : F_laws_heldChan x_a x_k = (-1) := by simp only [F_laws_heldChan, h40, h48, h56, h64, cond_true, cond_false]
  rw [hF66]
  exact rfl
 have q67 := of_decide_eq_false h64
 refine cf h64 ?_
 refine y1 ?_
 refine mw (vi (heldB x_a.Next (F_laws_heldEp x_a.Old (F_laws_heldEp x_a.Cur (heldB x_a.Sn x_k))))) ?_
 refine aw (vi (heldB x_a.Next (F_laws_heldEp x_a.Old (F_laws_heldEp x_a.Cur (heldB x_a.Sn x_k))))) ?_
 refine n3 ?_
 refine rt (vi (heldB x_a.Next (F_laws_heldEp x_a.Old (F_laws_heldEp x_a.Cur (heldB x_a.Sn x_k))))) ?_
 refine ⟨m62.keep0, ?_⟩
 have hF68 : F_laws_heldChan x_a x_k = (heldB x_a.Next (F_laws_heldEp x_a.Old (F_laws_heldEp x_a.Cur (heldB x_a.Sn x_k)))) := by simp only [F_laws_heldChan, h40, h48, h56, h64, cond_true, cond_false]
 rw [hF68]
 exact rfl
theorem laws_heldChan_le (x : PChan) (k : Int) : F_laws_heldChan x k = -1 ∨ F_laws_heldChan x k = k + ((x.Sn.length : Int) + (x.Cur.Key.length : Int) + (x.Cur.Win.Bits.length : Int) + (x.Old.Key.length : Int) + (x.Old.Win.Bits.length : Int) + (x.Next.length : Int)) := by
  have h0 := heldB_le x.Sn k
  have h1 := laws_heldEp_le x.Cur (heldB x.Sn k)
  have h2 := laws_heldEp_le x.Old (F_laws_heldEp x.Cur (heldB x.Sn k))
  have h3 := heldB_le x.Next (F_laws_heldEp x.Old (F_laws_heldEp x.Cur (heldB x.Sn k)))
  simp only [F_laws_heldChan, cond_eq_ite, decide_eq_true_eq]
  (repeat' split) <;> omega
end Go.Proofs.Ytafcngfnhhchjaa.K
