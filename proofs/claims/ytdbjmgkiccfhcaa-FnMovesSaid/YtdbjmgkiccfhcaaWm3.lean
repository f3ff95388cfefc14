import Derived.Test.YtdbjmgkiccfhcaaCore
import Derived.Test.YtdbjmgkiccfhcaaProg
import Derived.Test.YtdbjmgkiccfhcaaHeld
import Derived.Test.YtdbjmgkiccfhcaaFun
import Derived.Test.YtdbjmgkiccfhcaaFunZ
import Derived.Test.YtdbjmgkiccfhcaaSqz
import Derived.Test.YtdbjmgkiccfhcaaCur
import Derived.Test.YtdbjmgkiccfhcaaDrawW
import Derived.Test.YtdbjmgkiccfhcaaAead
import Derived.Test.YtdbjmgkiccfhcaaDrawK
import Derived.Test.YtdbjmgkiccfhcaaWm2
namespace Go.Proofs.Ytdbjmgkiccfhcaa.K
open Go.RowKit
set_option linter.unusedVariables false
set_option linter.unusedSimpArgs false
set_option maxRecDepth 100000
set_option maxHeartbeats 4000000
theorem mQ_22 {w : World} {x : List UInt8} {a1 : Option Addr} {c1 : Nat} (h1 : Rd w 1 (.slice a1 x.length c1) x.length (x.map bV)) (l1 : x.length ≤ 9223372036854775807) : Q_22 w (vs a1 x.length c1) x := ⟨_, _, rfl, h1, l1⟩
def mvG (e : PPaths × Int) (j : Nat) : Bool := bif iPa e.1 then (bif decide (0 ≤ e.2) then (bif decide (e.2 ≤ 1000000) then (bif decide (((F_impl_PathTick e.1 e.2).Cands.getD j z_PCand).Until < e.2) then false else true) else true) else true) else true
def mvR (e : PPaths × Int) : Bool := bif allN (mvG e) (F_impl_PathTick e.1 e.2).Cands.length then (bif (decide ((F_impl_PathTick e.1 e.2).At.Host = e.1.At.Host) && decide ((F_impl_PathTick e.1 e.2).At.Port = e.1.At.Port)) then decide (((F_impl_PathTick e.1 e.2).Cands.length : Int) ≤ (e.1.Cands.length : Int)) else false) else false
def mvLaw (code : List UInt8) (d : PPaths × Int × PAddr × List UInt8) (e : PPaths × Int) : Bool := bif F_laws_big code then true else bif ((F_impl_Answer d.1 d.2.1 d.2.2.1 d.2.2.2).2 == (F_spec_Answer d.1 d.2.1 d.2.2.1 d.2.2.2).2) then (bif (F_impl_Answer d.1 d.2.1 d.2.2.1 d.2.2.2).2 then (bif (F_impl_CandOf d.1 d.2.2.1).2 then (bif F_laws_same (F_impl_CandOf d.1 d.2.2.1).1.Draw d.2.2.2 then (bif decide ((F_impl_CandOf d.1 d.2.2.1).1.Until < d.2.1) then false else (bif (decide ((F_impl_Answer d.1 d.2.1 d.2.2.1 d.2.2.2).1.At.Host = d.2.2.1.Host) && decide ((F_impl_Answer d.1 d.2.1 d.2.2.1 d.2.2.2).1.At.Port = d.2.2.1.Port)) then mvR e else false)) else false) else false) else (bif (decide ((F_impl_Answer d.1 d.2.1 d.2.2.1 d.2.2.2).1.At.Host = d.1.At.Host) && decide ((F_impl_Answer d.1 d.2.1 d.2.2.1 d.2.2.2).1.At.Port = d.1.At.Port)) then mvR e else false)) else false
theorem C_laws_FnMoves (w0 : World) (v_x_code : Value) (x_code : List UInt8) (r_x_code : Q_22 w0 v_x_code x_code)  : Fn Try.prog 3 #[v_x_code] w0 (fun v w' => ∃ (d0 : (PPaths) × (Int) × (PAddr) × (List UInt8)) (d1 : (PPaths) × (Int)), Keep w0 w' ∧ (True) ∧ (True) ∧ v = vb (mvLaw x_code d0 d1)) := by
 obtain ⟨a1, c2, rfl, r3, s4⟩ := r_x_code
 refine fn_ofS (n := 137) [(vs a1 x_code.length c2)] Try.func3 rfl rfl ?_
 refine sr ?_
 refine aw (vb false) ?_
 refine n4 ?_
 refine mw (vs a1 x_code.length c2) ?_
 refine cl wN (C_laws_big w0 _ x_code (mQ_22 r3 s4)) ?_
 rintro _ w1 ⟨k6, rfl⟩
 have m7 := (Ch.base w0).extk k6
 refine n2 ?_
 rcases bt (F_laws_big x_code) with h8 | h8
 ·refine ct h8 ?_
  refine sr ?_
  refine aw (vb true) ?_
  refine n1 ?_
  refine rt (vb true) ?_
  have hF10 : mvLaw x_code (({ At := { Host := 0, Port := 0 : PAddr }, Cands := [] : PPaths }, 0, { Host := 0, Port := 0 : PAddr }, [])) (({ At := { Host := 0, Port := 0 : PAddr }, Cands := [] : PPaths }, 0)) = true := by first | (simp only [mvLaw, h8, cond_true, cond_false]; done) | (simp only [mvLaw, h8, cond_true, cond_false]; try simp only [cond_true, cond_false]; try rfl)
  exact ⟨(({ At := { Host := 0, Port := 0 : PAddr }, Cands := [] : PPaths }, 0, { Host := 0, Port := 0 : PAddr }, [])), (({ At := { Host := 0, Port := 0 : PAddr }, Cands := [] : PPaths }, 0)), m7.keep0, (by first | trivial | decide | (simp; done)), (by first | trivial | decide | (simp; done)), by rw [hF10]⟩
 have q11 := big_f h8
 refine cf h8 ?_
 refine y1 ?_
 refine mw (vs a1 x_code.length c2) ?_
 refine cl wN (C_spec_DrawAnswer w1 _ x_code (mR_22 (r3.from0 m7) (by omega))) ?_
 rintro _ w2 ⟨d0, k12, ⟨a14, c15, a19, c20, rfl, o16, s17, o21, s22, ap24⟩, q13⟩
 obtain ⟨y26, o27⟩ := OLv.ow o16
 refine mw (.tuple #[(va (L_28 ((d0).1) a14 c15)), (vi ((d0).2.1)), (va (L_25 ((d0).2.2.1))), (vs a19 ((d0).2.2.2).length c20)]) ?_
 refine pu (va (L_28 ((d0).1) a14 c15)) wN ?_
 refine pu (vi ((d0).2.1)) wN ?_
 refine pu (va (L_25 ((d0).2.2.1))) wN ?_
 refine pu (vs a19 ((d0).2.2.2).length c20) wN ?_
 refine al [(vi 0), (vi 0), (vs none 0 0)] wN zero_28 ?_
 intro g28 w3 p29 p30 k31 b32
 have m33 := (m7.extk k12).extk k31
 refine al [(vi 0), (vi 0)] wN zero_25 ?_
 intro g34 w4 p35 p36 k37 b38
 have b40 := (b32.kp k37)
 refine sv (L_28 ((d0).1) a14 c15) wN sizeOf_28 b40 ?_
 intro w5 k41 b42 z43
 have m44 := (m33.extk k37).ext k41 (fun k hk => by subst hk; exact Nat.le_trans (z2 k6 k12) p29)
 refine aw (vi ((d0).2.1)) ?_
 have b45 := (b38.ch k41 (Ne.symm (Nat.ne_of_lt (Nat.lt_of_lt_of_le p30 (p35)))))
 refine st (va (L_25 ((d0).2.2.1))) (L_25 ((d0).2.2.1)) (L_25 ((d0).2.2.1)) wN sizeOf_25 b45 ?_
 intro w6 k46 b47 z48
 have m49 := m44.ext k46 (fun k hk => by subst hk; exact Nat.le_trans (z3 k6 k12 k31) p35)
 refine aw (vs a19 ((d0).2.2.2).length c20) ?_
 refine nx ?_
 have b50 := (b42.ch k46 (Nat.ne_of_lt (Nat.lt_of_lt_of_le p30 (p35))))
 refine lN (L_28 ((d0).1) a14 c15) wN isAgg_28 sizeOf_28 b50 ?_
 refine mw (vi ((d0).2.1)) ?_
 refine lN (L_25 ((d0).2.2.1)) wN isAgg_25 sizeOf_25 b47 ?_
 refine mw (vs a19 ((d0).2.2.2).length c20) ?_
 have o51 := (OLv.ch (OLv.ch (OLv.kp (OLv.kp o16 k31) k37) k41 (fun g h1 h2 hk => by have h3 := Nat.le_trans (Nat.le_refl w2.heap.size) p29; omega)) k46 (fun g h1 h2 hk => by have h3 := Nat.le_trans k31.size p35; omega))
 have t52 := fun (E sz n : Nat) (v : Value) (xs : List Value) (o : World.ownsRow w2 w1.heap.size E sz v n xs) (o0 : World.ownsRow w2 w1.heap.size E sz v n xs) => (own_ch (own_ch (own_kp (own_kp o k31) k37) k41 (ne2 o0 (p29))) k46 (ne2 o0 (Nat.le_trans k31.size p35)))
 have o53 := (t52 _ _ _ _ _ o21 o21)
 refine cl wN (C_impl_Answer w6 _ ((d0).1) (mR_28 (OLv.rl o51) s17) ((d0).2.1) _ ((d0).2.2.1) (mR_25) _ ((d0).2.2.2) (mR_22 (Rd.of_own o53) s22)) ?_
 rintro _ w7 ⟨k54, ⟨a55, c56, rfl, o57, s58, ap60⟩⟩
 obtain ⟨y62, o63⟩ := OLv.ow o57
 refine mw (.tuple #[(va (L_28 ((F_impl_Answer ((d0).1) ((d0).2.1) ((d0).2.2.1) ((d0).2.2.2)).1) a55 c56)), (vb ((F_impl_Answer ((d0).1) ((d0).2.1) ((d0).2.2.1) ((d0).2.2.2)).2))]) ?_
 refine pu (va (L_28 ((F_impl_Answer ((d0).1) ((d0).2.1) ((d0).2.2.1) ((d0).2.2.2)).1) a55 c56)) wN ?_
 refine pu (vb ((F_impl_Answer ((d0).1) ((d0).2.1) ((d0).2.2.1) ((d0).2.2.2)).2)) wN ?_
 refine al [(vi 0), (vi 0), (vs none 0 0)] wN zero_28 ?_
 intro g64 w8 p65 p66 k67 b68
 refine sv (L_28 ((F_impl_Answer ((d0).1) ((d0).2.1) ((d0).2.2.1) ((d0).2.2.2)).1) a55 c56) wN sizeOf_28 b68 ?_
 intro w9 k70 b71 z72
 have m73 := ((m49.extk k54).extk k67).ext k70 (fun k hk => by subst hk; exact Nat.le_trans (z7 k6 k12 k31 k37 k41 k46 k54) p65)
 refine aw (vb ((F_impl_Answer ((d0).1) ((d0).2.1) ((d0).2.2.1) ((d0).2.2.2)).2)) ?_
 refine nx ?_
 have b74 := (((b50.kp k54).kp k67).ch k70 (Nat.ne_of_lt (Nat.lt_of_lt_of_le p30 (Nat.le_trans (z4 k37 k41 k46 k54) p65))))
 refine lN (L_28 ((d0).1) a14 c15) wN isAgg_28 sizeOf_28 b74 ?_
 have b75 := (((b47.kp k54).kp k67).ch k70 (Nat.ne_of_lt (Nat.lt_of_lt_of_le p36 (Nat.le_trans (z3 k41 k46 k54) p65))))
 refine lN (L_25 ((d0).2.2.1)) wN isAgg_25 sizeOf_25 b75 ?_
 have o76 := (OLv.ch (OLv.kp (OLv.kp o51 k54) k67) k70 (fun g h1 h2 hk => by have h3 := Nat.le_trans (z5 k31 k37 k41 k46 k54) p65; omega))
 refine cl wN (C_impl_CandOf w9 _ ((d0).1) (mR_28 (OLv.rl o76) s17) _ ((d0).2.2.1) (mR_25)) ?_
 rintro _ w10 ⟨k77, ⟨a78, c79, rfl, o80, s81, ap83⟩⟩
 refine mw (.tuple #[(va (L_34 ((F_impl_CandOf ((d0).1) ((d0).2.2.1)).1) a78 c79)), (vb ((F_impl_CandOf ((d0).1) ((d0).2.2.1)).2))]) ?_
 refine pu (va (L_34 ((F_impl_CandOf ((d0).1) ((d0).2.2.1)).1) a78 c79)) wN ?_
 refine pu (vb ((F_impl_CandOf ((d0).1) ((d0).2.2.1)).2)) wN ?_
 refine al Z_34 wN zero_34 ?_
 intro g85 w11 p86 p87 k88 b89
 refine sv (L_34 ((F_impl_CandOf ((d0).1) ((d0).2.2.1)).1) a78 c79) wN sizeOf_34 b89 ?_
 intro w12 k91 b92 z93
 have m94 := ((m73.extk k77).extk k88).ext k91 (fun k hk => by subst hk; exact Nat.le_trans (z10 k6 k12 k31 k37 k41 k46 k54 k67 k70 k77) p86)
 refine aw (vb ((F_impl_CandOf ((d0).1) ((d0).2.2.1)).2)) ?_
 refine nx ?_
 have b95 := (((b74.kp k77).kp k88).ch k91 (Nat.ne_of_lt (Nat.lt_of_lt_of_le p30 (Nat.le_trans (z7 k37 k41 k46 k54 k67 k70 k77) p86))))
 refine lN (L_28 ((d0).1) a14 c15) wN isAgg_28 sizeOf_28 b95 ?_
 refine mw (vi ((d0).2.1)) ?_
 have b96 := (((b75.kp k77).kp k88).ch k91 (Nat.ne_of_lt (Nat.lt_of_lt_of_le p36 (Nat.le_trans (z6 k41 k46 k54 k67 k70 k77) p86))))
 refine lN (L_25 ((d0).2.2.1)) wN isAgg_25 sizeOf_25 b96 ?_
 refine mw (vs a19 ((d0).2.2.2).length c20) ?_
 have o97 := (OLv.ch (OLv.kp (OLv.kp o76 k77) k88) k91 (fun g h1 h2 hk => by have h3 := Nat.le_trans (z8 k31 k37 k41 k46 k54 k67 k70 k77) p86; omega))
 have t98 := fun (E sz n : Nat) (v : Value) (xs : List Value) (o : World.ownsRow w6 w1.heap.size E sz v n xs) (o0 : World.ownsRow w2 w1.heap.size E sz v n xs) => (own_ch (own_kp (own_kp (own_ch (own_kp (own_kp o k54) k67) k70 (ne2 o0 (Nat.le_trans (z5 k31 k37 k41 k46 k54) p65))) k77) k88) k91 (ne2 o0 (Nat.le_trans (z8 k31 k37 k41 k46 k54 k67 k70 k77) p86)))
 have o99 := (t98 _ _ _ _ _ o53 o21)
 refine cl wN (C_spec_Answer w12 _ ((d0).1) (mR_28 (OLv.rl o97) s17) ((d0).2.1) _ ((d0).2.2.1) (mR_25) _ ((d0).2.2.2) (mR_22 (Rd.of_own o99) s22)) ?_
 rintro _ w13 ⟨k100, ⟨a101, c102, rfl, o103, s104, ap106⟩⟩
 obtain ⟨y108, o109⟩ := OLv.ow o103
 refine mw (.tuple #[(va (L_28 ((F_spec_Answer ((d0).1) ((d0).2.1) ((d0).2.2.1) ((d0).2.2.2)).1) a101 c102)), (vb ((F_spec_Answer ((d0).1) ((d0).2.1) ((d0).2.2.1) ((d0).2.2.2)).2))]) ?_
 refine pu (va (L_28 ((F_spec_Answer ((d0).1) ((d0).2.1) ((d0).2.2.1) ((d0).2.2.2)).1) a101 c102)) wN ?_
 refine pu (vb ((F_spec_Answer ((d0).1) ((d0).2.1) ((d0).2.2.1) ((d0).2.2.2)).2)) wN ?_
 refine al [(vi 0), (vi 0), (vs none 0 0)] wN zero_28 ?_
 intro g110 w14 p111 p112 k113 b114
 refine sv (L_28 ((F_spec_Answer ((d0).1) ((d0).2.1) ((d0).2.2.1) ((d0).2.2.2)).1) a101 c102) wN sizeOf_28 b114 ?_
 intro w15 k116 b117 z118
 have m119 := ((m94.extk k100).extk k113).ext k116 (fun k hk => by subst hk; exact Nat.le_trans (Nat.le_trans (z12 k6 k12 k31 k37 k41 k46 k54 k67 k70 k77 k88 k91) k100.size) p111)
 refine aw (vb ((F_spec_Answer ((d0).1) ((d0).2.1) ((d0).2.2.1) ((d0).2.2.2)).2)) ?_
 refine nx ?_
 refine mw (vs a1 x_code.length c2) ?_
 refine cl wN (C_spec_DrawPathTick w15 _ x_code (mR_22 (r3.from0 m119) (by omega))) ?_
 rintro _ w16 ⟨d1, k120, ⟨a122, c123, rfl, o124, s125, ap127⟩, q121⟩
 obtain ⟨y129, o130⟩ := OLv.ow o124
 refine mw (.tuple #[(va (L_28 ((d1).1) a122 c123)), (vi ((d1).2))]) ?_
 refine pu (va (L_28 ((d1).1) a122 c123)) wN ?_
 refine pu (vi ((d1).2)) wN ?_
 refine al [(vi 0), (vi 0), (vs none 0 0)] wN zero_28 ?_
 intro g131 w17 p132 p133 k134 b135
 refine sv (L_28 ((d1).1) a122 c123) wN sizeOf_28 b135 ?_
 intro w18 k137 b138 z139
 have m140 := ((m119.extk k120).extk k134).ext k137 (fun k hk => by subst hk; exact Nat.le_trans (t5 (z12 k6 k12 k31 k37 k41 k46 k54 k67 k70 k77 k88 k91) k100.size k113.size k116.size k120.size) p132)
 refine aw (vi ((d1).2)) ?_
 refine nx ?_
 refine lN (L_28 ((d1).1) a122 c123) wN isAgg_28 sizeOf_28 b138 ?_
 refine mw (vi ((d1).2)) ?_
 have o141 := (OLv.ch (OLv.kp o124 k134) k137 (fun g h1 h2 hk => by have h3 := Nat.le_trans (Nat.le_refl w16.heap.size) p132; omega))
 refine cl wN (C_impl_PathTick w18 _ ((d1).1) (mR_28 (OLv.rl o141) s125) ((d1).2)) ?_
 rintro _ w19 ⟨k142, ⟨a143, c144, rfl, o145, s146, ap148⟩⟩
 obtain ⟨y150, o151⟩ := OLv.ow o145
 refine al [(vi 0), (vi 0), (vs none 0 0)] wN zero_28 ?_
 intro g152 w20 p153 p154 k155 b156
 refine st (va (L_28 (F_impl_PathTick ((d1).1) ((d1).2)) a143 c144)) (L_28 (F_impl_PathTick ((d1).1) ((d1).2)) a143 c144) (L_28 (F_impl_PathTick ((d1).1) ((d1).2)) a143 c144) wN sizeOf_28 b156 ?_
 intro w21 k158 b159 z160
 have m161 := ((m140.extk k142).extk k155).ext k158 (fun k hk => by subst hk; exact Nat.le_trans (t8 (z12 k6 k12 k31 k37 k41 k46 k54 k67 k70 k77 k88 k91) k100.size k113.size k116.size k120.size k134.size k137.size k142.size) p153)
 refine n4 ?_
 refine jT1 [(2, (vb false)), (13, (vp g131 0)), (14, (vi ((d1).2))), (15, (vp g152 0))] (mvLaw x_code d0 d1 = false) ?_ fun J162 => ?_
 ·intro hA163 w22 k165 u164
  have m166 := m161.extk k165
  refine sr ?_
  refine aw (vb false) ?_
  refine n1 ?_
  refine rt (vb false) ?_
  have hF167 : mvLaw x_code d0 d1 = false := by exact hA163
  exact ⟨d0, d1, m166.keep0, q13, q121, by rw [hF167]⟩
 refine mw (vb ((F_impl_Answer ((d0).1) ((d0).2.1) ((d0).2.2.1) ((d0).2.2.2)).2)) ?_
 refine mw (vb ((F_spec_Answer ((d0).1) ((d0).2.1) ((d0).2.2.1) ((d0).2.2.2)).2)) ?_
 refine pu (vb (!(((F_impl_Answer ((d0).1) ((d0).2.1) ((d0).2.2.1) ((d0).2.2.2)).2) == ((F_spec_Answer ((d0).1) ((d0).2.1) ((d0).2.2.1) ((d0).2.2.2)).2)))) wN ?_
 refine mw (vb (!(((F_impl_Answer ((d0).1) ((d0).2.1) ((d0).2.2.1) ((d0).2.2.2)).2) == ((F_spec_Answer ((d0).1) ((d0).2.1) ((d0).2.2.1) ((d0).2.2.2)).2)))) ?_
 rcases bf (((F_impl_Answer ((d0).1) ((d0).2.1) ((d0).2.2.1) ((d0).2.2.2)).2) == ((F_spec_Answer ((d0).1) ((d0).2.1) ((d0).2.2.1) ((d0).2.2.2)).2)) with h172 | h172
 ·iterate 2 refine sk (congrArg not h172) ?_
  refine su ?_
  refine su ?_
  refine su ?_
  refine su ?_
  refine su ?_
  refine su ?_
  refine su ?_
  refine su ?_
  refine su ?_
  refine su ?_
  refine su ?_
  refine su ?_
  refine su ?_
  refine su ?_
  refine su ?_
  refine su ?_
  refine su ?_
  refine su ?_
  refine su ?_
  refine su ?_
  refine su ?_
  refine sk (congrArg not h172) ?_
  refine pk (vb true) wN (congrArg not h172) ?_
  refine mw (vb true) ?_
  iterate 3 refine sk (Eq.refl true) ?_
  refine su ?_
  refine su ?_
  refine su ?_
  refine su ?_
  refine su ?_
  refine sk T1 ?_
  refine pk (vb true) wN (Eq.refl true) ?_
  refine n2 ?_
  refine ct (Eq.refl true) ?_
  have hF399 : mvLaw x_code d0 d1 = false := by first | (simp only [mvLaw, h8, h172, cond_true, cond_false]; done) | (simp only [mvLaw, h8, h172, cond_true, cond_false]; try simp only [cond_true, cond_false]; try rfl)
  exact wj (J162 hF399 _ (Ch.refl _ _))
 refine mv (vb ((F_impl_Answer ((d0).1) ((d0).2.1) ((d0).2.2.1) ((d0).2.2.2)).2)) (wS (congrArg not h172)) ?_
 refine mv (vb ((F_impl_Answer ((d0).1) ((d0).2.1) ((d0).2.2.1) ((d0).2.2.2)).2)) (wS (congrArg not h172)) ?_
 rcases bf ((F_impl_Answer ((d0).1) ((d0).2.1) ((d0).2.2.1) ((d0).2.2.2)).2) with h174 | h174
 ·iterate 3 refine sk h174 ?_
  refine su ?_
  refine su ?_
  refine su ?_
  refine su ?_
  refine su ?_
  iterate 2 refine sk h174 ?_
  refine su ?_
  refine su ?_
  refine su ?_
  refine su ?_
  iterate 2 refine sk h174 ?_
  refine su ?_
  refine su ?_
  refine su ?_
  refine su ?_
  refine sk h174 ?_
  refine pf (vb false) (wS (congrArg not h172)) h174 ?_
  refine pf (vb false) wN (congrArg not h172) ?_
  refine mw (vb false) ?_
  refine mv (vb ((F_impl_Answer ((d0).1) ((d0).2.1) ((d0).2.2.1) ((d0).2.2.2)).2)) (wS (Eq.refl false)) ?_
  refine pu (vb (!((F_impl_Answer ((d0).1) ((d0).2.1) ((d0).2.2.1) ((d0).2.2.2)).2))) (wS (Eq.refl false)) ?_
  refine mv (vb (!((F_impl_Answer ((d0).1) ((d0).2.1) ((d0).2.2.1) ((d0).2.2.2)).2))) (wS (Eq.refl false)) ?_
  refine pu (vp g64 0) (wS (congrArg not h174)) ?_
  have b297 := ((((((((((((b71.kp k77).kp k88).ch k91 (Nat.ne_of_lt (Nat.lt_of_lt_of_le p66 (Nat.le_trans (z2 k70 k77) p86)))).kp k100).kp k113).ch k116 (Nat.ne_of_lt (Nat.lt_of_lt_of_le p66 (Nat.le_trans (z5 k70 k77 k88 k91 k100) p111)))).kp k120).kp k134).ch k137 (Nat.ne_of_lt (Nat.lt_of_lt_of_le p66 (Nat.le_trans (z8 k70 k77 k88 k91 k100 k113 k116 k120) p132)))).kp k142).kp k155).ch k158 (Nat.ne_of_lt (Nat.lt_of_lt_of_le p66 (Nat.le_trans (z11 k70 k77 k88 k91 k100 k113 k116 k120 k134 k137 k142) p153))))
  refine lN (L_25 (((F_impl_Answer ((d0).1) ((d0).2.1) ((d0).2.2.1) ((d0).2.2.2)).1).At)) (wS (congrArg not h174)) isAgg_25 sizeOf_25 b297 ?_
  refine pu (vp g28 0) (wS (congrArg not h174)) ?_
  have b298 := (((((((((b95.kp k100).kp k113).ch k116 (Nat.ne_of_lt (Nat.lt_of_lt_of_le p30 (Nat.le_trans (z10 k37 k41 k46 k54 k67 k70 k77 k88 k91 k100) p111)))).kp k120).kp k134).ch k137 (Nat.ne_of_lt (Nat.lt_of_lt_of_le p30 (Nat.le_trans (Nat.le_trans (z12 k37 k41 k46 k54 k67 k70 k77 k88 k91 k100 k113 k116) k120.size) p132)))).kp k142).kp k155).ch k158 (Nat.ne_of_lt (Nat.lt_of_lt_of_le p30 (Nat.le_trans (t5 (z12 k37 k41 k46 k54 k67 k70 k77 k88 k91 k100 k113 k116) k120.size k134.size k137.size k142.size) p153))))
  refine lN (L_25 (((d0).1).At)) (wS (congrArg not h174)) isAgg_25 sizeOf_25 b298 ?_
  refine wl_aggne ((decide (((((F_impl_Answer ((d0).1) ((d0).2.1) ((d0).2.2.1) ((d0).2.2.2)).1).At).Host) = ((((d0).1).At).Host)) && decide (((((F_impl_Answer ((d0).1) ((d0).2.1) ((d0).2.2.1) ((d0).2.2.2)).1).At).Port) = ((((d0).1).At).Port)))) (wS (congrArg not h174)) rfl rfl rfl rfl rfl guardt_25 (aggeq_25 ((((F_impl_Answer ((d0).1) ((d0).2.1) ((d0).2.2.1) ((d0).2.2.2)).1).At).Host) ((((d0).1).At).Host) ((((F_impl_Answer ((d0).1) ((d0).2.1) ((d0).2.2.1) ((d0).2.2.2)).1).At).Port) ((((d0).1).At).Port) w21) ?_
  refine pk (vb (!((decide (((((F_impl_Answer ((d0).1) ((d0).2.1) ((d0).2.2.1) ((d0).2.2.2)).1).At).Host) = ((((d0).1).At).Host)) && decide (((((F_impl_Answer ((d0).1) ((d0).2.1) ((d0).2.2.1) ((d0).2.2.2)).1).At).Port) = ((((d0).1).At).Port)))))) (wS (Eq.refl false)) (congrArg not h174) ?_
  refine pf (vb (!((decide (((((F_impl_Answer ((d0).1) ((d0).2.1) ((d0).2.2.1) ((d0).2.2.2)).1).At).Host) = ((((d0).1).At).Host)) && decide (((((F_impl_Answer ((d0).1) ((d0).2.1) ((d0).2.2.1) ((d0).2.2.2)).1).At).Port) = ((((d0).1).At).Port)))))) wN (Eq.refl false) ?_
  refine n2 ?_
  rcases bf (decide (((((F_impl_Answer ((d0).1) ((d0).2.1) ((d0).2.2.1) ((d0).2.2.2)).1).At).Host) = ((((d0).1).At).Host)) && decide (((((F_impl_Answer ((d0).1) ((d0).2.1) ((d0).2.2.1) ((d0).2.2.2)).1).At).Port) = ((((d0).1).At).Port))) with h299 | h299
  ·refine ct (congrArg not h299) ?_
   have hF397 : mvLaw x_code d0 d1 = false := by first | (simp only [mvLaw, h8, h172, cond_true, cond_false]; done) | (simp only [mvLaw, h8, h172, cond_true, cond_false]; try simp only [h174, h299, cond_true, cond_false]; try rfl)
   exact wj (J162 hF397 _ (Ch.refl _ _))
  refine cf (congrArg not h299) ?_
  refine y2 ?_
  refine aw (vi 0) ?_
  refine wl_nil <| wq_then <| wc_block ?_
  refine wc_loopP [(13, (vp g131 0)), (14, (vi ((d1).2))), (15, (vp g152 0)), (16, (vi ((0 : Nat) : Int)))] ⟨rfl, rfl, rfl, (congrArg (Value.int .i64) (show (0 : Int) = ((0 : Nat) : Int) by omega)), trivial⟩ (fun e' w' => ∃ (i : Nat) (u301 : Env), e' = pt u301 [(13, (vp g131 0)), (14, (vi ((d1).2))), (15, (vp g152 0)), (16, (vi ((i : Nat) : Int)))] ∧ Ch (fun k => w0.heap.size ≤ k) w0 w' ∧ Ch (fun k => w21.heap.size ≤ k) w21 w' ∧ i ≤ (F_impl_PathTick d1.1 d1.2).Cands.length ∧ (∀ j, j < i → mvG d1 j = true)) (fun e' _ => ((F_impl_PathTick d1.1 d1.2).Cands.length : Int).toNat - ((intOf (e' 16))).toNat) ?_ ?_
  ·exact fun u => ⟨0, u, rfl, m161, (Ch.refl (fun k => w21.heap.size ≤ k) w21), (by omega), (by first | (intro j hj; omega) | exact allN_next hi1 (by simp only [mvG, h8, h172, h174, h299, cond_true, cond_false]; try rfl))⟩
  ·rintro _ w22 ⟨i, u301, rfl, m302, k303, hi0, hi1⟩
   refine wc_seq <| sr ?_
   refine mw (vi ((i : Nat) : Int)) ?_
   refine pu (vp g152 2) wN ?_
   have b306 := (b159.ch k303 (Nat.not_le.2 (Nat.lt_of_lt_of_le p154 k158.size)))
   refine ld (vs a143 ((F_impl_PathTick ((d1).1) ((d1).2)).Cands).length c144) wN isAgg_26 b306 ?_
   have o309 := (OLv.ch (OLv.ch (OLv.kp o145 k155) k158 (fun g h1 h2 hk => by have h3 := Nat.le_trans (Nat.le_refl w19.heap.size) p153; omega)) k303 (fun g h1 h2 hk => by have h3 : w19.heap.size ≤ w21.heap.size := (z2 k155 k158); have h4 : w21.heap.size ≤ g := hk; omega))
   obtain ⟨y307, r308⟩ := RLv.row (OLv.rl o309)
   refine ln wN slTy_26 r308 ?_
   refine pu (vb (decide (((i : Nat) : Int) < (((F_impl_PathTick ((d1).1) ((d1).2)).Cands).length : Int)))) wN ?_
   refine mw (vb (decide (((i : Nat) : Int) < (((F_impl_PathTick ((d1).1) ((d1).2)).Cands).length : Int)))) ?_
   rcases bf (decide (((i : Nat) : Int) < (((F_impl_PathTick ((d1).1) ((d1).2)).Cands).length : Int))) with h310 | h310
   ·have q384 := of_decide_eq_false h310
    iterate 2 refine sk h310 ?_
    refine pf (vb false) wN h310 ?_
    refine mw (vb false) ?_
    iterate 2 refine sk (Eq.refl false) ?_
    refine pf (vb false) wN (Eq.refl false) ?_
    refine mw (vb false) ?_
    iterate 2 refine sk (Eq.refl false) ?_
    refine pf (vb false) wN (Eq.refl false) ?_
    refine n2 ?_
    refine cf (Eq.refl false) ?_
    refine wc_exit <| wq_then_exit <| wq_then_exit <| wq_blk_exit <| wq_then <| sr ?_
    refine pu (vp g152 0) wN ?_
    refine lN (L_25 ((F_impl_PathTick ((d1).1) ((d1).2)).At)) wN isAgg_25 sizeOf_25 b306 ?_
    refine pu (vp g131 0) wN ?_
    have b385 := ((((b138.kp k142).kp k155).ch k158 (Nat.ne_of_lt (Nat.lt_of_lt_of_le p133 (Nat.le_trans (z2 k137 k142) p153)))).ch k303 (Nat.not_le.2 (Nat.lt_of_lt_of_le p133 (z4 k137 k142 k155 k158))))
    refine lN (L_25 (((d1).1).At)) wN isAgg_25 sizeOf_25 b385 ?_
    refine wl_aggeq ((decide ((((F_impl_PathTick ((d1).1) ((d1).2)).At).Host) = ((((d1).1).At).Host)) && decide ((((F_impl_PathTick ((d1).1) ((d1).2)).At).Port) = ((((d1).1).At).Port)))) wN rfl rfl rfl rfl rfl guardt_25 (aggeq_25 (((F_impl_PathTick ((d1).1) ((d1).2)).At).Host) ((((d1).1).At).Host) (((F_impl_PathTick ((d1).1) ((d1).2)).At).Port) ((((d1).1).At).Port) w22) ?_
    refine mw (vb (decide ((((F_impl_PathTick ((d1).1) ((d1).2)).At).Host) = ((((d1).1).At).Host)) && decide ((((F_impl_PathTick ((d1).1) ((d1).2)).At).Port) = ((((d1).1).At).Port)))) ?_
    rcases bf (decide ((((F_impl_PathTick ((d1).1) ((d1).2)).At).Host) = ((((d1).1).At).Host)) && decide ((((F_impl_PathTick ((d1).1) ((d1).2)).At).Port) = ((((d1).1).At).Port))) with h386 | h386
    ·iterate 7 refine sk h386 ?_
     refine pf (vb false) wN h386 ?_
     refine aw (vb false) ?_
     refine n3 ?_
     refine rt (vb false) ?_
     have hF395 : mvLaw x_code d0 d1 = false := by have hz : allN (mvG d1) (F_impl_PathTick d1.1 d1.2).Cands.length = true := (by first | exact allN_t (f := mvG d1) (n := (F_impl_PathTick d1.1 d1.2).Cands.length) (k := i) hi1 (by omega) | exact allN_iff.2 (fun j _ => by simp only [mvG, h174, h299, h310, h386, cond_true, cond_false])); simp only [mvLaw, h8, h172, cond_true, cond_false]; simp only [mvR, hz, h174, h299, h310, h386, cond_true, cond_false]; try rfl
     exact ⟨d0, d1, m302.keep0, q13, q121, by rw [hF395]⟩
    refine pu (vp g152 2) (wS h386) ?_
    refine ld (vs a143 ((F_impl_PathTick ((d1).1) ((d1).2)).Cands).length c144) (wS h386) isAgg_26 b306 ?_
    obtain ⟨y388, r389⟩ := RLv.row (OLv.rl o309)
    refine ln (wS h386) slTy_26 r389 ?_
    refine pu (vp g131 2) (wS h386) ?_
    refine ld (vs a122 (((d1).1).Cands).length c123) (wS h386) isAgg_26 b385 ?_
    have o392 := (OLv.ch (OLv.ch (OLv.kp (OLv.kp o141 k142) k155) k158 (fun g h1 h2 hk => by have h3 := Nat.le_trans (z3 k134 k137 k142) p153; omega)) k303 (fun g h1 h2 hk => by have h3 : w16.heap.size ≤ w21.heap.size := (z5 k134 k137 k142 k155 k158); have h4 : w21.heap.size ≤ g := hk; omega))
    obtain ⟨y390, r391⟩ := RLv.row (OLv.rl o392)
    refine ln (wS h386) slTy_26 r391 ?_
    refine pu (vb (decide ((((F_impl_PathTick ((d1).1) ((d1).2)).Cands).length : Int) ≤ ((((d1).1).Cands).length : Int)))) (wS h386) ?_
    refine pk (vb (decide ((((F_impl_PathTick ((d1).1) ((d1).2)).Cands).length : Int) ≤ ((((d1).1).Cands).length : Int)))) wN h386 ?_
    refine aw (vb (decide ((((F_impl_PathTick ((d1).1) ((d1).2)).Cands).length : Int) ≤ ((((d1).1).Cands).length : Int)))) ?_
    refine n3 ?_
    refine rt (vb (decide ((((F_impl_PathTick ((d1).1) ((d1).2)).Cands).length : Int) ≤ ((((d1).1).Cands).length : Int)))) ?_
    have hF393 : mvLaw x_code d0 d1 = decide ((((F_impl_PathTick ((d1).1) ((d1).2)).Cands).length : Int) ≤ ((((d1).1).Cands).length : Int)) := by have hz : allN (mvG d1) (F_impl_PathTick d1.1 d1.2).Cands.length = true := (by first | exact allN_t (f := mvG d1) (n := (F_impl_PathTick d1.1 d1.2).Cands.length) (k := i) hi1 (by omega) | exact allN_iff.2 (fun j _ => by simp only [mvG, h174, h299, h310, h386, cond_true, cond_false])); simp only [mvLaw, h8, h172, cond_true, cond_false]; simp only [mvR, hz, h174, h299, h310, h386, cond_true, cond_false]; try rfl
    exact ⟨d0, d1, m302.keep0, q13, q121, by rw [hF393]⟩
   have q311 := of_decide_eq_true h310
   have b312 := ((((b138.kp k142).kp k155).ch k158 (Nat.ne_of_lt (Nat.lt_of_lt_of_le p133 (Nat.le_trans (z2 k137 k142) p153)))).ch k303 (Nat.not_le.2 (Nat.lt_of_lt_of_le p133 (z4 k137 k142 k155 k158))))
   refine lN (L_28 ((d1).1) a122 c123) (wS h310) isAgg_28 sizeOf_28 b312 ?_
   have o313 := (OLv.ch (OLv.ch (OLv.kp (OLv.kp o141 k142) k155) k158 (fun g h1 h2 hk => by have h3 := Nat.le_trans (z3 k134 k137 k142) p153; omega)) k303 (fun g h1 h2 hk => by have h3 : w16.heap.size ≤ w21.heap.size := (z5 k134 k137 k142 k155 k158); have h4 : w21.heap.size ≤ g := hk; omega))
   refine cl (wS h310) (C_impl_PathsOk w22 _ ((d1).1) (mR_28 (OLv.rl o313) s125)) ?_
   rintro _ w23 ⟨k314, rfl⟩
   have m315 := m302.extk k314
   refine pk (vb (iPa ((d1).1))) wN h310 ?_
   refine mw (vb (iPa ((d1).1))) ?_
   rcases bf (iPa ((d1).1)) with h316 | h316
   ·iterate 2 refine sk h316 ?_
    refine pf (vb false) wN h316 ?_
    refine mw (vb false) ?_
    iterate 2 refine sk (Eq.refl false) ?_
    refine pf (vb false) wN (Eq.refl false) ?_
    refine n2 ?_
    refine cf (Eq.refl false) ?_
    refine wc_exit <| wq_then_exit <| wq_then_exit <| wq_blk_exit <| wq_then <| sr ?_
    refine pu (vp g152 0) wN ?_
    have b371 := (b306.kp k314)
    refine lN (L_25 ((F_impl_PathTick ((d1).1) ((d1).2)).At)) wN isAgg_25 sizeOf_25 b371 ?_
    refine pu (vp g131 0) wN ?_
    have b372 := (b312.kp k314)
    refine lN (L_25 (((d1).1).At)) wN isAgg_25 sizeOf_25 b372 ?_
    refine wl_aggeq ((decide ((((F_impl_PathTick ((d1).1) ((d1).2)).At).Host) = ((((d1).1).At).Host)) && decide ((((F_impl_PathTick ((d1).1) ((d1).2)).At).Port) = ((((d1).1).At).Port)))) wN rfl rfl rfl rfl rfl guardt_25 (aggeq_25 (((F_impl_PathTick ((d1).1) ((d1).2)).At).Host) ((((d1).1).At).Host) (((F_impl_PathTick ((d1).1) ((d1).2)).At).Port) ((((d1).1).At).Port) w23) ?_
    refine mw (vb (decide ((((F_impl_PathTick ((d1).1) ((d1).2)).At).Host) = ((((d1).1).At).Host)) && decide ((((F_impl_PathTick ((d1).1) ((d1).2)).At).Port) = ((((d1).1).At).Port)))) ?_
    rcases bf (decide ((((F_impl_PathTick ((d1).1) ((d1).2)).At).Host) = ((((d1).1).At).Host)) && decide ((((F_impl_PathTick ((d1).1) ((d1).2)).At).Port) = ((((d1).1).At).Port))) with h373 | h373
    ·iterate 7 refine sk h373 ?_
     refine pf (vb false) wN h373 ?_
     refine aw (vb false) ?_
     refine n3 ?_
     refine rt (vb false) ?_
     have hF383 : mvLaw x_code d0 d1 = false := by have hz : allN (mvG d1) (F_impl_PathTick d1.1 d1.2).Cands.length = true := (by first | exact allN_t (f := mvG d1) (n := (F_impl_PathTick d1.1 d1.2).Cands.length) (k := i) hi1 (by omega) | exact allN_iff.2 (fun j _ => by simp only [mvG, h174, h299, h310, h316, h373, cond_true, cond_false])); simp only [mvLaw, h8, h172, cond_true, cond_false]; simp only [mvR, hz, h174, h299, h310, h316, h373, cond_true, cond_false]; try rfl
     exact ⟨d0, d1, m315.keep0, q13, q121, by rw [hF383]⟩
    refine pu (vp g152 2) (wS h373) ?_
    refine ld (vs a143 ((F_impl_PathTick ((d1).1) ((d1).2)).Cands).length c144) (wS h373) isAgg_26 b371 ?_
    have o377 := (OLv.kp o309 k314)
    obtain ⟨y375, r376⟩ := RLv.row (OLv.rl o377)
    refine ln (wS h373) slTy_26 r376 ?_
    refine pu (vp g131 2) (wS h373) ?_
    refine ld (vs a122 (((d1).1).Cands).length c123) (wS h373) isAgg_26 b372 ?_
    have o380 := (OLv.kp o313 k314)
    obtain ⟨y378, r379⟩ := RLv.row (OLv.rl o380)
    refine ln (wS h373) slTy_26 r379 ?_
    refine pu (vb (decide ((((F_impl_PathTick ((d1).1) ((d1).2)).Cands).length : Int) ≤ ((((d1).1).Cands).length : Int)))) (wS h373) ?_
    refine pk (vb (decide ((((F_impl_PathTick ((d1).1) ((d1).2)).Cands).length : Int) ≤ ((((d1).1).Cands).length : Int)))) wN h373 ?_
    refine aw (vb (decide ((((F_impl_PathTick ((d1).1) ((d1).2)).Cands).length : Int) ≤ ((((d1).1).Cands).length : Int)))) ?_
    refine n3 ?_
    refine rt (vb (decide ((((F_impl_PathTick ((d1).1) ((d1).2)).Cands).length : Int) ≤ ((((d1).1).Cands).length : Int)))) ?_
    have hF381 : mvLaw x_code d0 d1 = decide ((((F_impl_PathTick ((d1).1) ((d1).2)).Cands).length : Int) ≤ ((((d1).1).Cands).length : Int)) := by have hz : allN (mvG d1) (F_impl_PathTick d1.1 d1.2).Cands.length = true := (by first | exact allN_t (f := mvG d1) (n := (F_impl_PathTick d1.1 d1.2).Cands.length) (k := i) hi1 (by omega) | exact allN_iff.2 (fun j _ => by simp only [mvG, h174, h299, h310, h316, h373, cond_true, cond_false])); simp only [mvLaw, h8, h172, cond_true, cond_false]; simp only [mvR, hz, h174, h299, h310, h316, h373, cond_true, cond_false]; try rfl
    exact ⟨d0, d1, m315.keep0, q13, q121, by rw [hF381]⟩
   have q317 := iPa_t h316
   refine mv (vi ((d1).2)) (wS h316) ?_
   refine pu (vb (decide (0 ≤ (d1).2))) (wS h316) ?_
   refine pk (vb (decide (0 ≤ (d1).2))) wN h316 ?_
   refine mw (vb (decide (0 ≤ (d1).2))) ?_
   rcases bf (decide (0 ≤ (d1).2)) with h318 | h318
   ·have q356 := of_decide_eq_false h318
    iterate 2 refine sk h318 ?_
    refine pf (vb false) wN h318 ?_
    refine n2 ?_
    refine cf (Eq.refl false) ?_
    refine wc_exit <| wq_then_exit <| wq_then_exit <| wq_blk_exit <| wq_then <| sr ?_
    refine pu (vp g152 0) wN ?_
    have b357 := (b306.kp k314)
    refine lN (L_25 ((F_impl_PathTick ((d1).1) ((d1).2)).At)) wN isAgg_25 sizeOf_25 b357 ?_
    refine pu (vp g131 0) wN ?_
    have b358 := (b312.kp k314)
    refine lN (L_25 (((d1).1).At)) wN isAgg_25 sizeOf_25 b358 ?_
    refine wl_aggeq ((decide ((((F_impl_PathTick ((d1).1) ((d1).2)).At).Host) = ((((d1).1).At).Host)) && decide ((((F_impl_PathTick ((d1).1) ((d1).2)).At).Port) = ((((d1).1).At).Port)))) wN rfl rfl rfl rfl rfl guardt_25 (aggeq_25 (((F_impl_PathTick ((d1).1) ((d1).2)).At).Host) ((((d1).1).At).Host) (((F_impl_PathTick ((d1).1) ((d1).2)).At).Port) ((((d1).1).At).Port) w23) ?_
    refine mw (vb (decide ((((F_impl_PathTick ((d1).1) ((d1).2)).At).Host) = ((((d1).1).At).Host)) && decide ((((F_impl_PathTick ((d1).1) ((d1).2)).At).Port) = ((((d1).1).At).Port)))) ?_
    rcases bf (decide ((((F_impl_PathTick ((d1).1) ((d1).2)).At).Host) = ((((d1).1).At).Host)) && decide ((((F_impl_PathTick ((d1).1) ((d1).2)).At).Port) = ((((d1).1).At).Port))) with h359 | h359
    ·iterate 7 refine sk h359 ?_
     refine pf (vb false) wN h359 ?_
     refine aw (vb false) ?_
     refine n3 ?_
     refine rt (vb false) ?_
     have hF369 : mvLaw x_code d0 d1 = false := by have hz : allN (mvG d1) (F_impl_PathTick d1.1 d1.2).Cands.length = true := (by first | exact allN_t (f := mvG d1) (n := (F_impl_PathTick d1.1 d1.2).Cands.length) (k := i) hi1 (by omega) | exact allN_iff.2 (fun j _ => by simp only [mvG, h174, h299, h310, h316, h318, h359, cond_true, cond_false])); simp only [mvLaw, h8, h172, cond_true, cond_false]; simp only [mvR, hz, h174, h299, h310, h316, h318, h359, cond_true, cond_false]; try rfl
     exact ⟨d0, d1, m315.keep0, q13, q121, by rw [hF369]⟩
    refine pu (vp g152 2) (wS h359) ?_
    refine ld (vs a143 ((F_impl_PathTick ((d1).1) ((d1).2)).Cands).length c144) (wS h359) isAgg_26 b357 ?_
    have o363 := (OLv.kp o309 k314)
    obtain ⟨y361, r362⟩ := RLv.row (OLv.rl o363)
    refine ln (wS h359) slTy_26 r362 ?_
    refine pu (vp g131 2) (wS h359) ?_
    refine ld (vs a122 (((d1).1).Cands).length c123) (wS h359) isAgg_26 b358 ?_
    have o366 := (OLv.kp o313 k314)
    obtain ⟨y364, r365⟩ := RLv.row (OLv.rl o366)
    refine ln (wS h359) slTy_26 r365 ?_
    refine pu (vb (decide ((((F_impl_PathTick ((d1).1) ((d1).2)).Cands).length : Int) ≤ ((((d1).1).Cands).length : Int)))) (wS h359) ?_
    refine pk (vb (decide ((((F_impl_PathTick ((d1).1) ((d1).2)).Cands).length : Int) ≤ ((((d1).1).Cands).length : Int)))) wN h359 ?_
    refine aw (vb (decide ((((F_impl_PathTick ((d1).1) ((d1).2)).Cands).length : Int) ≤ ((((d1).1).Cands).length : Int)))) ?_
    refine n3 ?_
    refine rt (vb (decide ((((F_impl_PathTick ((d1).1) ((d1).2)).Cands).length : Int) ≤ ((((d1).1).Cands).length : Int)))) ?_
    have hF367 : mvLaw x_code d0 d1 = decide ((((F_impl_PathTick ((d1).1) ((d1).2)).Cands).length : Int) ≤ ((((d1).1).Cands).length : Int)) := by have hz : allN (mvG d1) (F_impl_PathTick d1.1 d1.2).Cands.length = true := (by first | exact allN_t (f := mvG d1) (n := (F_impl_PathTick d1.1 d1.2).Cands.length) (k := i) hi1 (by omega) | exact allN_iff.2 (fun j _ => by simp only [mvG, h174, h299, h310, h316, h318, h359, cond_true, cond_false])); simp only [mvLaw, h8, h172, cond_true, cond_false]; simp only [mvR, hz, h174, h299, h310, h316, h318, h359, cond_true, cond_false]; try rfl
    exact ⟨d0, d1, m315.keep0, q13, q121, by rw [hF367]⟩
   have q319 := of_decide_eq_true h318
   refine mv (vi ((d1).2)) (wS h318) ?_
   refine pu (vb (decide ((d1).2 ≤ 1000000))) (wS h318) ?_
   refine pk (vb (decide ((d1).2 ≤ 1000000))) wN h318 ?_
   refine n2 ?_
   rcases bt (decide ((d1).2 ≤ 1000000)) with h320 | h320
   ·have q321 := of_decide_eq_true h320
    refine ct h320 ?_
    refine wc_skip <| wq_then <| wc_seq <| wc_block <| sr ?_
    refine pu (vp g152 2) wN ?_
    have b322 := (b306.kp k314)
    refine ld (vs a143 ((F_impl_PathTick ((d1).1) ((d1).2)).Cands).length c144) wN isAgg_26 b322 ?_
    refine mw (vi ((i : Nat) : Int)) ?_
    have o325 := (OLv.kp o309 k314)
    obtain ⟨y323, r324⟩ := RLv.row (OLv.rl o325)
    refine ix wN ((i : Nat) : Int) slTy_26 r324 ?_
    obtain ⟨y326, l327, r328, e329, u330⟩ := OLv.el z_PCand (i := i) o325 (by first | omega | (simp only [List.length_cons, List.length_nil, List.length_replicate, List.length_append, List.length_take, List.length_set, List.length_map]; omega))
    obtain ⟨a331, c332, l336, rfl, r333, s334, u337⟩ := SubO.c u330
    obtain rfl := SubO.n u337
    refine wl_fieldE wN rfl rfl rfl fieldAt_34_2 rfl r328 (by omega) ?_
    refine wl_loadE (vi ((((F_impl_PathTick ((d1).1) ((d1).2)).Cands).getD i z_PCand).Until)) wN rfl rfl rfl rfl isAgg_3 r328 ((get_of (off := 3) e329 (by first | rfl | simp | omega) (by decide)).trans rfl) ?_
    refine mw (vi ((d1).2)) ?_
    refine pu (vb (decide ((((F_impl_PathTick ((d1).1) ((d1).2)).Cands).getD i z_PCand).Until < (d1).2))) wN ?_
    refine n2 ?_
    rcases bt (decide ((((F_impl_PathTick ((d1).1) ((d1).2)).Cands).getD i z_PCand).Until < (d1).2)) with h338 | h338
    ·have q339 := of_decide_eq_true h338
     refine ct h338 ?_
     refine sr ?_
     refine aw (vb false) ?_
     refine wl_nil <| wq_then <| wc_ret <| wq_blk_ret <| wq_then_ret <| wq_then_ret <| wq_blk_ret <| wq_then_ret ?_
     refine rt (vb false) ?_
     have hF340 : mvLaw x_code d0 d1 = false := by have hz := allN_f (f := mvG d1) (n := (F_impl_PathTick d1.1 d1.2).Cands.length) (k := i) (by omega) (by simp only [mvG, h174, h299, h310, h316, h318, h320, h338, cond_true, cond_false]; try rfl); simp only [mvLaw, h8, h172, cond_true, cond_false]; simp only [mvR, hz, h174, h299, h310, h316, h318, h320, h338, cond_true, cond_false]; try rfl
     exact ⟨d0, d1, m315.keep0, q13, q121, by rw [hF340]⟩
    have q341 := of_decide_eq_false h338
    refine cf h338 ?_
    refine wc_skip <| wq_blk_normal <| wq_then <| wc_region ?_
    refine mw (vi ((i : Nat) : Int)) ?_
    refine ar (((i : Nat) : Int) + 1) wN ?_
    refine aw (vi (((i : Nat) : Int) + 1)) ?_
    refine wl_nil ?_
    refine wq_loopP (w0 := w22) [(13, (vp g131 0)), (14, (vi ((d1).2))), (15, (vp g152 0)), (16, (vi (((i + 1) : Nat) : Int)))] ?_ ?_ ?_
    · exact ⟨rfl, rfl, rfl, (congrArg (Value.int .i64) (show ((((i : Nat) : Int) + 1) : Int) = (((i + 1) : Nat) : Int) by omega)), trivial⟩
    · exact fun u => ⟨(i + 1), u, rfl, m315, (((Ch.refl (fun k => w21.heap.size ≤ k) w21).ext k303 (fun k hk => hk)).extk k314), (by omega), (by first | (intro j hj; omega) | exact allN_next hi1 (by simp only [mvG, h8, h172, h174, h299, h310, h316, h318, h320, h338, cond_true, cond_false]; try rfl))⟩
    · show ((F_impl_PathTick d1.1 d1.2).Cands.length : Int).toNat - ((((i + 1) : Nat) : Int)).toNat < ((F_impl_PathTick d1.1 d1.2).Cands.length : Int).toNat - (((i : Nat) : Int)).toNat; omega
   have q342 := of_decide_eq_false h320
   refine cf h320 ?_
   refine wc_exit <| wq_then_exit <| wq_then_exit <| wq_blk_exit <| wq_then <| sr ?_
   refine pu (vp g152 0) wN ?_
   have b343 := (b306.kp k314)
   refine lN (L_25 ((F_impl_PathTick ((d1).1) ((d1).2)).At)) wN isAgg_25 sizeOf_25 b343 ?_
   refine pu (vp g131 0) wN ?_
   have b344 := (b312.kp k314)
   refine lN (L_25 (((d1).1).At)) wN isAgg_25 sizeOf_25 b344 ?_
   refine wl_aggeq ((decide ((((F_impl_PathTick ((d1).1) ((d1).2)).At).Host) = ((((d1).1).At).Host)) && decide ((((F_impl_PathTick ((d1).1) ((d1).2)).At).Port) = ((((d1).1).At).Port)))) wN rfl rfl rfl rfl rfl guardt_25 (aggeq_25 (((F_impl_PathTick ((d1).1) ((d1).2)).At).Host) ((((d1).1).At).Host) (((F_impl_PathTick ((d1).1) ((d1).2)).At).Port) ((((d1).1).At).Port) w23) ?_
   refine mw (vb (decide ((((F_impl_PathTick ((d1).1) ((d1).2)).At).Host) = ((((d1).1).At).Host)) && decide ((((F_impl_PathTick ((d1).1) ((d1).2)).At).Port) = ((((d1).1).At).Port)))) ?_
   rcases bf (decide ((((F_impl_PathTick ((d1).1) ((d1).2)).At).Host) = ((((d1).1).At).Host)) && decide ((((F_impl_PathTick ((d1).1) ((d1).2)).At).Port) = ((((d1).1).At).Port))) with h345 | h345
   ·iterate 7 refine sk h345 ?_
    refine pf (vb false) wN h345 ?_
    refine aw (vb false) ?_
    refine n3 ?_
    refine rt (vb false) ?_
    have hF355 : mvLaw x_code d0 d1 = false := by have hz : allN (mvG d1) (F_impl_PathTick d1.1 d1.2).Cands.length = true := (by first | exact allN_t (f := mvG d1) (n := (F_impl_PathTick d1.1 d1.2).Cands.length) (k := i) hi1 (by omega) | exact allN_iff.2 (fun j _ => by simp only [mvG, h174, h299, h310, h316, h318, h320, h345, cond_true, cond_false])); simp only [mvLaw, h8, h172, cond_true, cond_false]; simp only [mvR, hz, h174, h299, h310, h316, h318, h320, h345, cond_true, cond_false]; try rfl
    exact ⟨d0, d1, m315.keep0, q13, q121, by rw [hF355]⟩
   refine pu (vp g152 2) (wS h345) ?_
   refine ld (vs a143 ((F_impl_PathTick ((d1).1) ((d1).2)).Cands).length c144) (wS h345) isAgg_26 b343 ?_
   have o349 := (OLv.kp o309 k314)
   obtain ⟨y347, r348⟩ := RLv.row (OLv.rl o349)
   refine ln (wS h345) slTy_26 r348 ?_
   refine pu (vp g131 2) (wS h345) ?_
   refine ld (vs a122 (((d1).1).Cands).length c123) (wS h345) isAgg_26 b344 ?_
   have o352 := (OLv.kp o313 k314)
   obtain ⟨y350, r351⟩ := RLv.row (OLv.rl o352)
   refine ln (wS h345) slTy_26 r351 ?_
   refine pu (vb (decide ((((F_impl_PathTick ((d1).1) ((d1).2)).Cands).length : Int) ≤ ((((d1).1).Cands).length : Int)))) (wS h345) ?_
   refine pk (vb (decide ((((F_impl_PathTick ((d1).1) ((d1).2)).Cands).length : Int) ≤ ((((d1).1).Cands).length : Int)))) wN h345 ?_
   refine aw (vb (decide ((((F_impl_PathTick ((d1).1) ((d1).2)).Cands).length : Int) ≤ ((((d1).1).Cands).length : Int)))) ?_
   refine n3 ?_
   refine rt (vb (decide ((((F_impl_PathTick ((d1).1) ((d1).2)).Cands).length : Int) ≤ ((((d1).1).Cands).length : Int)))) ?_
   have hF353 : mvLaw x_code d0 d1 = decide ((((F_impl_PathTick ((d1).1) ((d1).2)).Cands).length : Int) ≤ ((((d1).1).Cands).length : Int)) := by have hz : allN (mvG d1) (F_impl_PathTick d1.1 d1.2).Cands.length = true := (by first | exact allN_t (f := mvG d1) (n := (F_impl_PathTick d1.1 d1.2).Cands.length) (k := i) hi1 (by omega) | exact allN_iff.2 (fun j _ => by simp only [mvG, h174, h299, h310, h316, h318, h320, h345, cond_true, cond_false])); simp only [mvLaw, h8, h172, cond_true, cond_false]; simp only [mvR, hz, h174, h299, h310, h316, h318, h320, h345, cond_true, cond_false]; try rfl
   exact ⟨d0, d1, m315.keep0, q13, q121, by rw [hF353]⟩
 refine mv (vb ((F_impl_CandOf ((d0).1) ((d0).2.2.1)).2)) (wS h174) ?_
 refine pu (vb (!((F_impl_CandOf ((d0).1) ((d0).2.2.1)).2))) (wS h174) ?_
 refine mv (vb (!((F_impl_CandOf ((d0).1) ((d0).2.2.1)).2))) (wS h174) ?_
 rcases bf ((F_impl_CandOf ((d0).1) ((d0).2.2.1)).2) with h176 | h176
 ·iterate 5 refine sk (congrArg not h176) ?_
  refine pk (vb true) (wS h174) (congrArg not h176) ?_
  refine mv (vb true) (wS h174) ?_
  iterate 4 refine sk (Eq.refl true) ?_
  refine pk (vb true) (wS h174) (Eq.refl true) ?_
  refine mv (vb true) (wS h174) ?_
  iterate 4 refine sk (Eq.refl true) ?_
  refine pk (vb true) (wS h174) (Eq.refl true) ?_
  refine pk (vb true) (wS (congrArg not h172)) h174 ?_
  refine pf (vb true) wN (congrArg not h172) ?_
  refine mw (vb true) ?_
  iterate 3 refine sk (Eq.refl true) ?_
  refine su ?_
  refine su ?_
  refine su ?_
  refine su ?_
  refine su ?_
  refine sk T1 ?_
  refine pk (vb true) wN (Eq.refl true) ?_
  refine n2 ?_
  refine ct (Eq.refl true) ?_
  have hF295 : mvLaw x_code d0 d1 = false := by first | (simp only [mvLaw, h8, h172, cond_true, cond_false]; done) | (simp only [mvLaw, h8, h172, cond_true, cond_false]; try simp only [h174, h176, cond_true, cond_false]; try rfl)
  exact wj (J162 hF295 _ (Ch.refl _ _))
 refine pu (vp g85 2) (wS (congrArg not h176)) ?_
 have b178 := (((((((((b92.kp k100).kp k113).ch k116 (Nat.ne_of_lt (Nat.lt_of_lt_of_le p87 (Nat.le_trans (z2 k91 k100) p111)))).kp k120).kp k134).ch k137 (Nat.ne_of_lt (Nat.lt_of_lt_of_le p87 (Nat.le_trans (z5 k91 k100 k113 k116 k120) p132)))).kp k142).kp k155).ch k158 (Nat.ne_of_lt (Nat.lt_of_lt_of_le p87 (Nat.le_trans (z8 k91 k100 k113 k116 k120 k134 k137 k142) p153))))
 refine ld (vs a78 (((F_impl_CandOf ((d0).1) ((d0).2.2.1)).1).Draw).length c79) (wS (congrArg not h176)) isAgg_22 b178 ?_
 refine mv (vs a19 ((d0).2.2.2).length c20) (wS (congrArg not h176)) ?_
 have o179 := (own_ch (own_kp (own_kp (own_ch (own_kp (own_kp (own_ch (own_kp (own_kp (own_ch (own_kp o80 k88) k91 (ne2 o80 (p86))) k100) k113) k116 (ne2 o80 (Nat.le_trans (z3 k88 k91 k100) p111))) k120) k134) k137 (ne2 o80 (Nat.le_trans (z6 k88 k91 k100 k113 k116 k120) p132))) k142) k155) k158 (ne2 o80 (Nat.le_trans (z9 k88 k91 k100 k113 k116 k120 k134 k137 k142) p153)))
 have t180 := fun (E sz n : Nat) (v : Value) (xs : List Value) (o : World.ownsRow w12 w1.heap.size E sz v n xs) (o0 : World.ownsRow w2 w1.heap.size E sz v n xs) => (own_ch (own_kp (own_kp (own_ch (own_kp (own_kp (own_ch (own_kp (own_kp o k100) k113) k116 (ne2 o0 (Nat.le_trans (z11 k31 k37 k41 k46 k54 k67 k70 k77 k88 k91 k100) p111))) k120) k134) k137 (ne2 o0 (Nat.le_trans (t3 (z12 k31 k37 k41 k46 k54 k67 k70 k77 k88 k91 k100 k113) k116.size k120.size) p132))) k142) k155) k158 (ne2 o0 (Nat.le_trans (t6 (z12 k31 k37 k41 k46 k54 k67 k70 k77 k88 k91 k100 k113) k116.size k120.size k134.size k137.size k142.size) p153)))
 have o181 := (t180 _ _ _ _ _ o99 o21)
 refine cl (wS (congrArg not h176)) (C_laws_same w21 _ (((F_impl_CandOf ((d0).1) ((d0).2.2.1)).1).Draw) (mR_22 (Rd.of_own o179) s81) _ ((d0).2.2.2) (mR_22 (Rd.of_own o181) s22)) ?_
 rintro _ w22 ⟨k182, rfl⟩
 have m183 := m161.extk k182
 refine pu (vb (!(F_laws_same (((F_impl_CandOf ((d0).1) ((d0).2.2.1)).1).Draw) ((d0).2.2.2)))) (wS (congrArg not h176)) ?_
 refine pf (vb (!(F_laws_same (((F_impl_CandOf ((d0).1) ((d0).2.2.1)).1).Draw) ((d0).2.2.2)))) (wS h174) (congrArg not h176) ?_
 refine mv (vb (!(F_laws_same (((F_impl_CandOf ((d0).1) ((d0).2.2.1)).1).Draw) ((d0).2.2.2)))) (wS h174) ?_
 rcases bf (F_laws_same (((F_impl_CandOf ((d0).1) ((d0).2.2.1)).1).Draw) ((d0).2.2.2)) with h184 | h184
 ·iterate 4 refine sk (congrArg not h184) ?_
  refine pk (vb true) (wS h174) (congrArg not h184) ?_
  refine mv (vb true) (wS h174) ?_
  iterate 4 refine sk (Eq.refl true) ?_
  refine pk (vb true) (wS h174) (Eq.refl true) ?_
  refine pk (vb true) (wS (congrArg not h172)) h174 ?_
  refine pf (vb true) wN (congrArg not h172) ?_
  refine mw (vb true) ?_
  iterate 3 refine sk (Eq.refl true) ?_
  refine su ?_
  refine su ?_
  refine su ?_
  refine su ?_
  refine su ?_
  refine sk T1 ?_
  refine pk (vb true) wN (Eq.refl true) ?_
  refine n2 ?_
  refine ct (Eq.refl true) ?_
  have hF293 : mvLaw x_code d0 d1 = false := by first | (simp only [mvLaw, h8, h172, cond_true, cond_false]; done) | (simp only [mvLaw, h8, h172, cond_true, cond_false]; try simp only [h174, h176, h184, cond_true, cond_false]; try rfl)
  exact wj (J162 hF293 _ k182)
 refine mv (vi ((d0).2.1)) (wS (congrArg not h184)) ?_
 refine pu (vp g85 3) (wS (congrArg not h184)) ?_
 have b186 := (b178.kp k182)
 refine ld (vi (((F_impl_CandOf ((d0).1) ((d0).2.2.1)).1).Until)) (wS (congrArg not h184)) isAgg_3 b186 ?_
 refine pu (vb (decide (((F_impl_CandOf ((d0).1) ((d0).2.2.1)).1).Until < (d0).2.1))) (wS (congrArg not h184)) ?_
 refine pf (vb (decide (((F_impl_CandOf ((d0).1) ((d0).2.2.1)).1).Until < (d0).2.1))) (wS h174) (congrArg not h184) ?_
 refine mv (vb (decide (((F_impl_CandOf ((d0).1) ((d0).2.2.1)).1).Until < (d0).2.1))) (wS h174) ?_
 rcases bt (decide (((F_impl_CandOf ((d0).1) ((d0).2.2.1)).1).Until < (d0).2.1)) with h187 | h187
 ·have q188 := of_decide_eq_true h187
  iterate 4 refine sk h187 ?_
  refine pk (vb true) (wS h174) h187 ?_
  refine pk (vb true) (wS (congrArg not h172)) h174 ?_
  refine pf (vb true) wN (congrArg not h172) ?_
  refine mw (vb true) ?_
  iterate 3 refine sk (Eq.refl true) ?_
  refine su ?_
  refine su ?_
  refine su ?_
  refine su ?_
  refine su ?_
  refine sk T1 ?_
  refine pk (vb true) wN (Eq.refl true) ?_
  refine n2 ?_
  refine ct (Eq.refl true) ?_
  have hF189 : mvLaw x_code d0 d1 = false := by first | (simp only [mvLaw, h8, h172, cond_true, cond_false]; done) | (simp only [mvLaw, h8, h172, cond_true, cond_false]; try simp only [h174, h176, h184, h187, cond_true, cond_false]; try rfl)
  exact wj (J162 hF189 _ k182)
 have q190 := of_decide_eq_false h187
 refine pu (vp g64 0) (wS h187) ?_
 have b191 := (((((((((((((b71.kp k77).kp k88).ch k91 (Nat.ne_of_lt (Nat.lt_of_lt_of_le p66 (Nat.le_trans (z2 k70 k77) p86)))).kp k100).kp k113).ch k116 (Nat.ne_of_lt (Nat.lt_of_lt_of_le p66 (Nat.le_trans (z5 k70 k77 k88 k91 k100) p111)))).kp k120).kp k134).ch k137 (Nat.ne_of_lt (Nat.lt_of_lt_of_le p66 (Nat.le_trans (z8 k70 k77 k88 k91 k100 k113 k116 k120) p132)))).kp k142).kp k155).ch k158 (Nat.ne_of_lt (Nat.lt_of_lt_of_le p66 (Nat.le_trans (z11 k70 k77 k88 k91 k100 k113 k116 k120 k134 k137 k142) p153)))).kp k182)
 refine lN (L_25 (((F_impl_Answer ((d0).1) ((d0).2.1) ((d0).2.2.1) ((d0).2.2.2)).1).At)) (wS h187) isAgg_25 sizeOf_25 b191 ?_
 have b192 := ((((((((((b96.kp k100).kp k113).ch k116 (Nat.ne_of_lt (Nat.lt_of_lt_of_le p36 (Nat.le_trans (z9 k41 k46 k54 k67 k70 k77 k88 k91 k100) p111)))).kp k120).kp k134).ch k137 (Nat.ne_of_lt (Nat.lt_of_lt_of_le p36 (Nat.le_trans (z12 k41 k46 k54 k67 k70 k77 k88 k91 k100 k113 k116 k120) p132)))).kp k142).kp k155).ch k158 (Nat.ne_of_lt (Nat.lt_of_lt_of_le p36 (Nat.le_trans (t4 (z12 k41 k46 k54 k67 k70 k77 k88 k91 k100 k113 k116 k120) k134.size k137.size k142.size) p153)))).kp k182)
 refine lN (L_25 ((d0).2.2.1)) (wS h187) isAgg_25 sizeOf_25 b192 ?_
 refine wl_aggne ((decide (((((F_impl_Answer ((d0).1) ((d0).2.1) ((d0).2.2.1) ((d0).2.2.2)).1).At).Host) = (((d0).2.2.1).Host)) && decide (((((F_impl_Answer ((d0).1) ((d0).2.1) ((d0).2.2.1) ((d0).2.2.2)).1).At).Port) = (((d0).2.2.1).Port)))) (wS h187) rfl rfl rfl rfl rfl guardt_25 (aggeq_25 ((((F_impl_Answer ((d0).1) ((d0).2.1) ((d0).2.2.1) ((d0).2.2.2)).1).At).Host) (((d0).2.2.1).Host) ((((F_impl_Answer ((d0).1) ((d0).2.1) ((d0).2.2.1) ((d0).2.2.2)).1).At).Port) (((d0).2.2.1).Port) w22) ?_
 refine pf (vb (!((decide (((((F_impl_Answer ((d0).1) ((d0).2.1) ((d0).2.2.1) ((d0).2.2.2)).1).At).Host) = (((d0).2.2.1).Host)) && decide (((((F_impl_Answer ((d0).1) ((d0).2.1) ((d0).2.2.1) ((d0).2.2.2)).1).At).Port) = (((d0).2.2.1).Port)))))) (wS h174) h187 ?_
 refine pk (vb (!((decide (((((F_impl_Answer ((d0).1) ((d0).2.1) ((d0).2.2.1) ((d0).2.2.2)).1).At).Host) = (((d0).2.2.1).Host)) && decide (((((F_impl_Answer ((d0).1) ((d0).2.1) ((d0).2.2.1) ((d0).2.2.2)).1).At).Port) = (((d0).2.2.1).Port)))))) (wS (congrArg not h172)) h174 ?_
 refine pf (vb (!((decide (((((F_impl_Answer ((d0).1) ((d0).2.1) ((d0).2.2.1) ((d0).2.2.2)).1).At).Host) = (((d0).2.2.1).Host)) && decide (((((F_impl_Answer ((d0).1) ((d0).2.1) ((d0).2.2.1) ((d0).2.2.2)).1).At).Port) = (((d0).2.2.1).Port)))))) wN (congrArg not h172) ?_
 refine mw (vb (!((decide (((((F_impl_Answer ((d0).1) ((d0).2.1) ((d0).2.2.1) ((d0).2.2.2)).1).At).Host) = (((d0).2.2.1).Host)) && decide (((((F_impl_Answer ((d0).1) ((d0).2.1) ((d0).2.2.1) ((d0).2.2.2)).1).At).Port) = (((d0).2.2.1).Port)))))) ?_
 rcases bf (decide (((((F_impl_Answer ((d0).1) ((d0).2.1) ((d0).2.2.1) ((d0).2.2.2)).1).At).Host) = (((d0).2.2.1).Host)) && decide (((((F_impl_Answer ((d0).1) ((d0).2.1) ((d0).2.2.1) ((d0).2.2.2)).1).At).Port) = (((d0).2.2.1).Port))) with h193 | h193
 ·iterate 3 refine sk (congrArg not h193) ?_
  refine su ?_
  refine su ?_
  refine su ?_
  refine su ?_
  refine su ?_
  refine sk (congrArg not h193) ?_
  refine pk (vb true) wN (congrArg not h193) ?_
  refine n2 ?_
  refine ct (Eq.refl true) ?_
  have hF291 : mvLaw x_code d0 d1 = false := by first | (simp only [mvLaw, h8, h172, cond_true, cond_false]; done) | (simp only [mvLaw, h8, h172, cond_true, cond_false]; try simp only [h174, h176, h184, h187, h193, cond_true, cond_false]; try rfl)
  exact wj (J162 hF291 _ k182)
 refine mv (vb ((F_impl_Answer ((d0).1) ((d0).2.1) ((d0).2.2.1) ((d0).2.2.2)).2)) (wS (congrArg not h193)) ?_
 refine pu (vb (!((F_impl_Answer ((d0).1) ((d0).2.1) ((d0).2.2.1) ((d0).2.2.2)).2))) (wS (congrArg not h193)) ?_
 refine mv (vb (!((F_impl_Answer ((d0).1) ((d0).2.1) ((d0).2.2.1) ((d0).2.2.2)).2))) (wS (congrArg not h193)) ?_
 iterate 5 refine sk (congrArg not h174) ?_
 refine pf (vb false) (wS (congrArg not h193)) (congrArg not h174) ?_
 refine pf (vb false) wN (congrArg not h193) ?_
 refine n2 ?_
 refine cf (Eq.refl false) ?_
 refine y2 ?_
 refine aw (vi 0) ?_
 refine wl_nil <| wq_then <| wc_block ?_
 refine wc_loopP [(13, (vp g131 0)), (14, (vi ((d1).2))), (15, (vp g152 0)), (16, (vi ((0 : Nat) : Int)))] ⟨rfl, rfl, rfl, (congrArg (Value.int .i64) (show (0 : Int) = ((0 : Nat) : Int) by omega)), trivial⟩ (fun e' w' => ∃ (i : Nat) (u195 : Env), e' = pt u195 [(13, (vp g131 0)), (14, (vi ((d1).2))), (15, (vp g152 0)), (16, (vi ((i : Nat) : Int)))] ∧ Ch (fun k => w0.heap.size ≤ k) w0 w' ∧ Ch (fun k => w22.heap.size ≤ k) w22 w' ∧ i ≤ (F_impl_PathTick d1.1 d1.2).Cands.length ∧ (∀ j, j < i → mvG d1 j = true)) (fun e' _ => ((F_impl_PathTick d1.1 d1.2).Cands.length : Int).toNat - ((intOf (e' 16))).toNat) ?_ ?_
 ·exact fun u => ⟨0, u, rfl, m183, (Ch.refl (fun k => w22.heap.size ≤ k) w22), (by omega), (by first | (intro j hj; omega) | exact allN_next hi1 (by simp only [mvG, h8, h172, h174, h176, h184, h187, h193, cond_true, cond_false]; try rfl))⟩
 ·rintro _ w23 ⟨i, u195, rfl, m196, k197, hi0, hi1⟩
  refine wc_seq <| sr ?_
  refine mw (vi ((i : Nat) : Int)) ?_
  refine pu (vp g152 2) wN ?_
  have b200 := ((b159.kp k182).ch k197 (Nat.not_le.2 (Nat.lt_of_lt_of_le p154 (z2 k158 k182))))
  refine ld (vs a143 ((F_impl_PathTick ((d1).1) ((d1).2)).Cands).length c144) wN isAgg_26 b200 ?_
  have o203 := (OLv.ch (OLv.kp (OLv.ch (OLv.kp o145 k155) k158 (fun g h1 h2 hk => by have h3 := Nat.le_trans (Nat.le_refl w19.heap.size) p153; omega)) k182) k197 (fun g h1 h2 hk => by have h3 : w19.heap.size ≤ w22.heap.size := (z3 k155 k158 k182); have h4 : w22.heap.size ≤ g := hk; omega))
  obtain ⟨y201, r202⟩ := RLv.row (OLv.rl o203)
  refine ln wN slTy_26 r202 ?_
  refine pu (vb (decide (((i : Nat) : Int) < (((F_impl_PathTick ((d1).1) ((d1).2)).Cands).length : Int)))) wN ?_
  refine mw (vb (decide (((i : Nat) : Int) < (((F_impl_PathTick ((d1).1) ((d1).2)).Cands).length : Int)))) ?_
  rcases bf (decide (((i : Nat) : Int) < (((F_impl_PathTick ((d1).1) ((d1).2)).Cands).length : Int))) with h204 | h204
  ·have q278 := of_decide_eq_false h204
   iterate 2 refine sk h204 ?_
   refine pf (vb false) wN h204 ?_
   refine mw (vb false) ?_
   iterate 2 refine sk (Eq.refl false) ?_
   refine pf (vb false) wN (Eq.refl false) ?_
   refine mw (vb false) ?_
   iterate 2 refine sk (Eq.refl false) ?_
   refine pf (vb false) wN (Eq.refl false) ?_
   refine n2 ?_
   refine cf (Eq.refl false) ?_
   refine wc_exit <| wq_then_exit <| wq_then_exit <| wq_blk_exit <| wq_then <| sr ?_
   refine pu (vp g152 0) wN ?_
   refine lN (L_25 ((F_impl_PathTick ((d1).1) ((d1).2)).At)) wN isAgg_25 sizeOf_25 b200 ?_
   refine pu (vp g131 0) wN ?_
   have b279 := (((((b138.kp k142).kp k155).ch k158 (Nat.ne_of_lt (Nat.lt_of_lt_of_le p133 (Nat.le_trans (z2 k137 k142) p153)))).kp k182).ch k197 (Nat.not_le.2 (Nat.lt_of_lt_of_le p133 (z5 k137 k142 k155 k158 k182))))
   refine lN (L_25 (((d1).1).At)) wN isAgg_25 sizeOf_25 b279 ?_
   refine wl_aggeq ((decide ((((F_impl_PathTick ((d1).1) ((d1).2)).At).Host) = ((((d1).1).At).Host)) && decide ((((F_impl_PathTick ((d1).1) ((d1).2)).At).Port) = ((((d1).1).At).Port)))) wN rfl rfl rfl rfl rfl guardt_25 (aggeq_25 (((F_impl_PathTick ((d1).1) ((d1).2)).At).Host) ((((d1).1).At).Host) (((F_impl_PathTick ((d1).1) ((d1).2)).At).Port) ((((d1).1).At).Port) w23) ?_
   refine mw (vb (decide ((((F_impl_PathTick ((d1).1) ((d1).2)).At).Host) = ((((d1).1).At).Host)) && decide ((((F_impl_PathTick ((d1).1) ((d1).2)).At).Port) = ((((d1).1).At).Port)))) ?_
   rcases bf (decide ((((F_impl_PathTick ((d1).1) ((d1).2)).At).Host) = ((((d1).1).At).Host)) && decide ((((F_impl_PathTick ((d1).1) ((d1).2)).At).Port) = ((((d1).1).At).Port))) with h280 | h280
   ·iterate 7 refine sk h280 ?_
    refine pf (vb false) wN h280 ?_
    refine aw (vb false) ?_
    refine n3 ?_
    refine rt (vb false) ?_
    have hF289 : mvLaw x_code d0 d1 = false := by have hz : allN (mvG d1) (F_impl_PathTick d1.1 d1.2).Cands.length = true := (by first | exact allN_t (f := mvG d1) (n := (F_impl_PathTick d1.1 d1.2).Cands.length) (k := i) hi1 (by omega) | exact allN_iff.2 (fun j _ => by simp only [mvG, h174, h176, h184, h187, h193, h204, h280, cond_true, cond_false])); simp only [mvLaw, h8, h172, cond_true, cond_false]; simp only [mvR, hz, h174, h176, h184, h187, h193, h204, h280, cond_true, cond_false]; try rfl
    exact ⟨d0, d1, m196.keep0, q13, q121, by rw [hF289]⟩
   refine pu (vp g152 2) (wS h280) ?_
   refine ld (vs a143 ((F_impl_PathTick ((d1).1) ((d1).2)).Cands).length c144) (wS h280) isAgg_26 b200 ?_
   obtain ⟨y282, r283⟩ := RLv.row (OLv.rl o203)
   refine ln (wS h280) slTy_26 r283 ?_
   refine pu (vp g131 2) (wS h280) ?_
   refine ld (vs a122 (((d1).1).Cands).length c123) (wS h280) isAgg_26 b279 ?_
   have o286 := (OLv.ch (OLv.kp (OLv.ch (OLv.kp (OLv.kp o141 k142) k155) k158 (fun g h1 h2 hk => by have h3 := Nat.le_trans (z3 k134 k137 k142) p153; omega)) k182) k197 (fun g h1 h2 hk => by have h3 : w16.heap.size ≤ w22.heap.size := (z6 k134 k137 k142 k155 k158 k182); have h4 : w22.heap.size ≤ g := hk; omega))
   obtain ⟨y284, r285⟩ := RLv.row (OLv.rl o286)
   refine ln (wS h280) slTy_26 r285 ?_
   refine pu (vb (decide ((((F_impl_PathTick ((d1).1) ((d1).2)).Cands).length : Int) ≤ ((((d1).1).Cands).length : Int)))) (wS h280) ?_
   refine pk (vb (decide ((((F_impl_PathTick ((d1).1) ((d1).2)).Cands).length : Int) ≤ ((((d1).1).Cands).length : Int)))) wN h280 ?_
   refine aw (vb (decide ((((F_impl_PathTick ((d1).1) ((d1).2)).Cands).length : Int) ≤ ((((d1).1).Cands).length : Int)))) ?_
   refine n3 ?_
   refine rt (vb (decide ((((F_impl_PathTick ((d1).1) ((d1).2)).Cands).length : Int) ≤ ((((d1).1).Cands).length : Int)))) ?_
   have hF287 : mvLaw x_code d0 d1 = decide ((((F_impl_PathTick ((d1).1) ((d1).2)).Cands).length : Int) ≤ ((((d1).1).Cands).length : Int)) := by have hz : allN (mvG d1) (F_impl_PathTick d1.1 d1.2).Cands.length = true := (by first | exact allN_t (f := mvG d1) (n := (F_impl_PathTick d1.1 d1.2).Cands.length) (k := i) hi1 (by omega) | exact allN_iff.2 (fun j _ => by simp only [mvG, h174, h176, h184, h187, h193, h204, h280, cond_true, cond_false])); simp only [mvLaw, h8, h172, cond_true, cond_false]; simp only [mvR, hz, h174, h176, h184, h187, h193, h204, h280, cond_true, cond_false]; try rfl
   exact ⟨d0, d1, m196.keep0, q13, q121, by rw [hF287]⟩
  have q205 := of_decide_eq_true h204
  have b206 := (((((b138.kp k142).kp k155).ch k158 (Nat.ne_of_lt (Nat.lt_of_lt_of_le p133 (Nat.le_trans (z2 k137 k142) p153)))).kp k182).ch k197 (Nat.not_le.2 (Nat.lt_of_lt_of_le p133 (z5 k137 k142 k155 k158 k182))))
  refine lN (L_28 ((d1).1) a122 c123) (wS h204) isAgg_28 sizeOf_28 b206 ?_
  have o207 := (OLv.ch (OLv.kp (OLv.ch (OLv.kp (OLv.kp o141 k142) k155) k158 (fun g h1 h2 hk => by have h3 := Nat.le_trans (z3 k134 k137 k142) p153; omega)) k182) k197 (fun g h1 h2 hk => by have h3 : w16.heap.size ≤ w22.heap.size := (z6 k134 k137 k142 k155 k158 k182); have h4 : w22.heap.size ≤ g := hk; omega))
  refine cl (wS h204) (C_impl_PathsOk w23 _ ((d1).1) (mR_28 (OLv.rl o207) s125)) ?_
  rintro _ w24 ⟨k208, rfl⟩
  have m209 := m196.extk k208
  refine pk (vb (iPa ((d1).1))) wN h204 ?_
  refine mw (vb (iPa ((d1).1))) ?_
  rcases bf (iPa ((d1).1)) with h210 | h210
  ·iterate 2 refine sk h210 ?_
   refine pf (vb false) wN h210 ?_
   refine mw (vb false) ?_
   iterate 2 refine sk (Eq.refl false) ?_
   refine pf (vb false) wN (Eq.refl false) ?_
   refine n2 ?_
   refine cf (Eq.refl false) ?_
   refine wc_exit <| wq_then_exit <| wq_then_exit <| wq_blk_exit <| wq_then <| sr ?_
   refine pu (vp g152 0) wN ?_
   have b265 := (b200.kp k208)
   refine lN (L_25 ((F_impl_PathTick ((d1).1) ((d1).2)).At)) wN isAgg_25 sizeOf_25 b265 ?_
   refine pu (vp g131 0) wN ?_
   have b266 := (b206.kp k208)
   refine lN (L_25 (((d1).1).At)) wN isAgg_25 sizeOf_25 b266 ?_
   refine wl_aggeq ((decide ((((F_impl_PathTick ((d1).1) ((d1).2)).At).Host) = ((((d1).1).At).Host)) && decide ((((F_impl_PathTick ((d1).1) ((d1).2)).At).Port) = ((((d1).1).At).Port)))) wN rfl rfl rfl rfl rfl guardt_25 (aggeq_25 (((F_impl_PathTick ((d1).1) ((d1).2)).At).Host) ((((d1).1).At).Host) (((F_impl_PathTick ((d1).1) ((d1).2)).At).Port) ((((d1).1).At).Port) w24) ?_
   refine mw (vb (decide ((((F_impl_PathTick ((d1).1) ((d1).2)).At).Host) = ((((d1).1).At).Host)) && decide ((((F_impl_PathTick ((d1).1) ((d1).2)).At).Port) = ((((d1).1).At).Port)))) ?_
   rcases bf (decide ((((F_impl_PathTick ((d1).1) ((d1).2)).At).Host) = ((((d1).1).At).Host)) && decide ((((F_impl_PathTick ((d1).1) ((d1).2)).At).Port) = ((((d1).1).At).Port))) with h267 | h267
   ·iterate 7 refine sk h267 ?_
    refine pf (vb false) wN h267 ?_
    refine aw (vb false) ?_
    refine n3 ?_
    refine rt (vb false) ?_
    have hF277 : mvLaw x_code d0 d1 = false := by have hz : allN (mvG d1) (F_impl_PathTick d1.1 d1.2).Cands.length = true := (by first | exact allN_t (f := mvG d1) (n := (F_impl_PathTick d1.1 d1.2).Cands.length) (k := i) hi1 (by omega) | exact allN_iff.2 (fun j _ => by simp only [mvG, h174, h176, h184, h187, h193, h204, h210, h267, cond_true, cond_false])); simp only [mvLaw, h8, h172, cond_true, cond_false]; simp only [mvR, hz, h174, h176, h184, h187, h193, h204, h210, h267, cond_true, cond_false]; try rfl
    exact ⟨d0, d1, m209.keep0, q13, q121, by rw [hF277]⟩
   refine pu (vp g152 2) (wS h267) ?_
   refine ld (vs a143 ((F_impl_PathTick ((d1).1) ((d1).2)).Cands).length c144) (wS h267) isAgg_26 b265 ?_
   have o271 := (OLv.kp o203 k208)
   obtain ⟨y269, r270⟩ := RLv.row (OLv.rl o271)
   refine ln (wS h267) slTy_26 r270 ?_
   refine pu (vp g131 2) (wS h267) ?_
   refine ld (vs a122 (((d1).1).Cands).length c123) (wS h267) isAgg_26 b266 ?_
   have o274 := (OLv.kp o207 k208)
   obtain ⟨y272, r273⟩ := RLv.row (OLv.rl o274)
   refine ln (wS h267) slTy_26 r273 ?_
   refine pu (vb (decide ((((F_impl_PathTick ((d1).1) ((d1).2)).Cands).length : Int) ≤ ((((d1).1).Cands).length : Int)))) (wS h267) ?_
   refine pk (vb (decide ((((F_impl_PathTick ((d1).1) ((d1).2)).Cands).length : Int) ≤ ((((d1).1).Cands).length : Int)))) wN h267 ?_
   refine aw (vb (decide ((((F_impl_PathTick ((d1).1) ((d1).2)).Cands).length : Int) ≤ ((((d1).1).Cands).length : Int)))) ?_
   refine n3 ?_
   refine rt (vb (decide ((((F_impl_PathTick ((d1).1) ((d1).2)).Cands).length : Int) ≤ ((((d1).1).Cands).length : Int)))) ?_
   have hF275 : mvLaw x_code d0 d1 = decide ((((F_impl_PathTick ((d1).1) ((d1).2)).Cands).length : Int) ≤ ((((d1).1).Cands).length : Int)) := by have hz : allN (mvG d1) (F_impl_PathTick d1.1 d1.2).Cands.length = true := (by first | exact allN_t (f := mvG d1) (n := (F_impl_PathTick d1.1 d1.2).Cands.length) (k := i) hi1 (by omega) | exact allN_iff.2 (fun j _ => by simp only [mvG, h174, h176, h184, h187, h193, h204, h210, h267, cond_true, cond_false])); simp only [mvLaw, h8, h172, cond_true, cond_false]; simp only [mvR, hz, h174, h176, h184, h187, h193, h204, h210, h267, cond_true, cond_false]; try rfl
   exact ⟨d0, d1, m209.keep0, q13, q121, by rw [hF275]⟩
  have q211 := iPa_t h210
  refine mv (vi ((d1).2)) (wS h210) ?_
  refine pu (vb (decide (0 ≤ (d1).2))) (wS h210) ?_
  refine pk (vb (decide (0 ≤ (d1).2))) wN h210 ?_
  refine mw (vb (decide (0 ≤ (d1).2))) ?_
  rcases bf (decide (0 ≤ (d1).2)) with h212 | h212
  ·have q250 := of_decide_eq_false h212
   iterate 2 refine sk h212 ?_
   refine pf (vb false) wN h212 ?_
   refine n2 ?_
   refine cf (Eq.refl false) ?_
   refine wc_exit <| wq_then_exit <| wq_then_exit <| wq_blk_exit <| wq_then <| sr ?_
   refine pu (vp g152 0) wN ?_
   have b251 := (b200.kp k208)
   refine lN (L_25 ((F_impl_PathTick ((d1).1) ((d1).2)).At)) wN isAgg_25 sizeOf_25 b251 ?_
   refine pu (vp g131 0) wN ?_
   have b252 := (b206.kp k208)
   refine lN (L_25 (((d1).1).At)) wN isAgg_25 sizeOf_25 b252 ?_
   refine wl_aggeq ((decide ((((F_impl_PathTick ((d1).1) ((d1).2)).At).Host) = ((((d1).1).At).Host)) && decide ((((F_impl_PathTick ((d1).1) ((d1).2)).At).Port) = ((((d1).1).At).Port)))) wN rfl rfl rfl rfl rfl guardt_25 (aggeq_25 (((F_impl_PathTick ((d1).1) ((d1).2)).At).Host) ((((d1).1).At).Host) (((F_impl_PathTick ((d1).1) ((d1).2)).At).Port) ((((d1).1).At).Port) w24) ?_
   refine mw (vb (decide ((((F_impl_PathTick ((d1).1) ((d1).2)).At).Host) = ((((d1).1).At).Host)) && decide ((((F_impl_PathTick ((d1).1) ((d1).2)).At).Port) = ((((d1).1).At).Port)))) ?_
   rcases bf (decide ((((F_impl_PathTick ((d1).1) ((d1).2)).At).Host) = ((((d1).1).At).Host)) && decide ((((F_impl_PathTick ((d1).1) ((d1).2)).At).Port) = ((((d1).1).At).Port))) with h253 | h253
   ·iterate 7 refine sk h253 ?_
    refine pf (vb false) wN h253 ?_
    refine aw (vb false) ?_
    refine n3 ?_
    refine rt (vb false) ?_
    have hF263 : mvLaw x_code d0 d1 = false := by have hz : allN (mvG d1) (F_impl_PathTick d1.1 d1.2).Cands.length = true := (by first | exact allN_t (f := mvG d1) (n := (F_impl_PathTick d1.1 d1.2).Cands.length) (k := i) hi1 (by omega) | exact allN_iff.2 (fun j _ => by simp only [mvG, h174, h176, h184, h187, h193, h204, h210, h212, h253, cond_true, cond_false])); simp only [mvLaw, h8, h172, cond_true, cond_false]; simp only [mvR, hz, h174, h176, h184, h187, h193, h204, h210, h212, h253, cond_true, cond_false]; try rfl
    exact ⟨d0, d1, m209.keep0, q13, q121, by rw [hF263]⟩
   refine pu (vp g152 2) (wS h253) ?_
   refine ld (vs a143 ((F_impl_PathTick ((d1).1) ((d1).2)).Cands).length c144) (wS h253) isAgg_26 b251 ?_
   have o257 := (OLv.kp o203 k208)
   obtain ⟨y255, r256⟩ := RLv.row (OLv.rl o257)
   refine ln (wS h253) slTy_26 r256 ?_
   refine pu (vp g131 2) (wS h253) ?_
   refine ld (vs a122 (((d1).1).Cands).length c123) (wS h253) isAgg_26 b252 ?_
   have o260 := (OLv.kp o207 k208)
   obtain ⟨y258, r259⟩ := RLv.row (OLv.rl o260)
   refine ln (wS h253) slTy_26 r259 ?_
   refine pu (vb (decide ((((F_impl_PathTick ((d1).1) ((d1).2)).Cands).length : Int) ≤ ((((d1).1).Cands).length : Int)))) (wS h253) ?_
   refine pk (vb (decide ((((F_impl_PathTick ((d1).1) ((d1).2)).Cands).length : Int) ≤ ((((d1).1).Cands).length : Int)))) wN h253 ?_
   refine aw (vb (decide ((((F_impl_PathTick ((d1).1) ((d1).2)).Cands).length : Int) ≤ ((((d1).1).Cands).length : Int)))) ?_
   refine n3 ?_
   refine rt (vb (decide ((((F_impl_PathTick ((d1).1) ((d1).2)).Cands).length : Int) ≤ ((((d1).1).Cands).length : Int)))) ?_
   have hF261 : mvLaw x_code d0 d1 = decide ((((F_impl_PathTick ((d1).1) ((d1).2)).Cands).length : Int) ≤ ((((d1).1).Cands).length : Int)) := by have hz : allN (mvG d1) (F_impl_PathTick d1.1 d1.2).Cands.length = true := (by first | exact allN_t (f := mvG d1) (n := (F_impl_PathTick d1.1 d1.2).Cands.length) (k := i) hi1 (by omega) | exact allN_iff.2 (fun j _ => by simp only [mvG, h174, h176, h184, h187, h193, h204, h210, h212, h253, cond_true, cond_false])); simp only [mvLaw, h8, h172, cond_true, cond_false]; simp only [mvR, hz, h174, h176, h184, h187, h193, h204, h210, h212, h253, cond_true, cond_false]; try rfl
   exact ⟨d0, d1, m209.keep0, q13, q121, by rw [hF261]⟩
  have q213 := of_decide_eq_true h212
  refine mv (vi ((d1).2)) (wS h212) ?_
  refine pu (vb (decide ((d1).2 ≤ 1000000))) (wS h212) ?_
  refine pk (vb (decide ((d1).2 ≤ 1000000))) wN h212 ?_
  refine n2 ?_
  rcases bt (decide ((d1).2 ≤ 1000000)) with h214 | h214
  ·have q215 := of_decide_eq_true h214
   refine ct h214 ?_
   refine wc_skip <| wq_then <| wc_seq <| wc_block <| sr ?_
   refine pu (vp g152 2) wN ?_
   have b216 := (b200.kp k208)
   refine ld (vs a143 ((F_impl_PathTick ((d1).1) ((d1).2)).Cands).length c144) wN isAgg_26 b216 ?_
   refine mw (vi ((i : Nat) : Int)) ?_
   have o219 := (OLv.kp o203 k208)
   obtain ⟨y217, r218⟩ := RLv.row (OLv.rl o219)
   refine ix wN ((i : Nat) : Int) slTy_26 r218 ?_
   obtain ⟨y220, l221, r222, e223, u224⟩ := OLv.el z_PCand (i := i) o219 (by first | omega | (simp only [List.length_cons, List.length_nil, List.length_replicate, List.length_append, List.length_take, List.length_set, List.length_map]; omega))
   obtain ⟨a225, c226, l230, rfl, r227, s228, u231⟩ := SubO.c u224
   obtain rfl := SubO.n u231
   refine wl_fieldE wN rfl rfl rfl fieldAt_34_2 rfl r222 (by omega) ?_
   refine wl_loadE (vi ((((F_impl_PathTick ((d1).1) ((d1).2)).Cands).getD i z_PCand).Until)) wN rfl rfl rfl rfl isAgg_3 r222 ((get_of (off := 3) e223 (by first | rfl | simp | omega) (by decide)).trans rfl) ?_
   refine mw (vi ((d1).2)) ?_
   refine pu (vb (decide ((((F_impl_PathTick ((d1).1) ((d1).2)).Cands).getD i z_PCand).Until < (d1).2))) wN ?_
   refine n2 ?_
   rcases bt (decide ((((F_impl_PathTick ((d1).1) ((d1).2)).Cands).getD i z_PCand).Until < (d1).2)) with h232 | h232
   ·have q233 := of_decide_eq_true h232
    refine ct h232 ?_
    refine sr ?_
    refine aw (vb false) ?_
    refine wl_nil <| wq_then <| wc_ret <| wq_blk_ret <| wq_then_ret <| wq_then_ret <| wq_blk_ret <| wq_then_ret ?_
    refine rt (vb false) ?_
    have hF234 : mvLaw x_code d0 d1 = false := by have hz := allN_f (f := mvG d1) (n := (F_impl_PathTick d1.1 d1.2).Cands.length) (k := i) (by omega) (by simp only [mvG, h174, h176, h184, h187, h193, h204, h210, h212, h214, h232, cond_true, cond_false]; try rfl); simp only [mvLaw, h8, h172, cond_true, cond_false]; simp only [mvR, hz, h174, h176, h184, h187, h193, h204, h210, h212, h214, h232, cond_true, cond_false]; try rfl
    exact ⟨d0, d1, m209.keep0, q13, q121, by rw [hF234]⟩
   have q235 := of_decide_eq_false h232
   refine cf h232 ?_
   refine wc_skip <| wq_blk_normal <| wq_then <| wc_region ?_
   refine mw (vi ((i : Nat) : Int)) ?_
   refine ar (((i : Nat) : Int) + 1) wN ?_
   refine aw (vi (((i : Nat) : Int) + 1)) ?_
   refine wl_nil ?_
   refine wq_loopP (w0 := w23) [(13, (vp g131 0)), (14, (vi ((d1).2))), (15, (vp g152 0)), (16, (vi (((i + 1) : Nat) : Int)))] ?_ ?_ ?_
   · exact ⟨rfl, rfl, rfl, (congrArg (Value.int .i64) (show ((((i : Nat) : Int) + 1) : Int) = (((i + 1) : Nat) : Int) by omega)), trivial⟩
   · exact fun u => ⟨(i + 1), u, rfl, m209, (((Ch.refl (fun k => w22.heap.size ≤ k) w22).ext k197 (fun k hk => hk)).extk k208), (by omega), (by first | (intro j hj; omega) | exact allN_next hi1 (by simp only [mvG, h8, h172, h174, h176, h184, h187, h193, h204, h210, h212, h214, h232, cond_true, cond_false]; try rfl))⟩
   · show ((F_impl_PathTick d1.1 d1.2).Cands.length : Int).toNat - ((((i + 1) : Nat) : Int)).toNat < ((F_impl_PathTick d1.1 d1.2).Cands.length : Int).toNat - (((i : Nat) : Int)).toNat; omega
  have q236 := of_decide_eq_false h214
  refine cf h214 ?_
  refine wc_exit <| wq_then_exit <| wq_then_exit <| wq_blk_exit <| wq_then <| sr ?_
  refine pu (vp g152 0) wN ?_
  have b237 := (b200.kp k208)
  refine lN (L_25 ((F_impl_PathTick ((d1).1) ((d1).2)).At)) wN isAgg_25 sizeOf_25 b237 ?_
  refine pu (vp g131 0) wN ?_
  have b238 := (b206.kp k208)
  refine lN (L_25 (((d1).1).At)) wN isAgg_25 sizeOf_25 b238 ?_
  refine wl_aggeq ((decide ((((F_impl_PathTick ((d1).1) ((d1).2)).At).Host) = ((((d1).1).At).Host)) && decide ((((F_impl_PathTick ((d1).1) ((d1).2)).At).Port) = ((((d1).1).At).Port)))) wN rfl rfl rfl rfl rfl guardt_25 (aggeq_25 (((F_impl_PathTick ((d1).1) ((d1).2)).At).Host) ((((d1).1).At).Host) (((F_impl_PathTick ((d1).1) ((d1).2)).At).Port) ((((d1).1).At).Port) w24) ?_
  refine mw (vb (decide ((((F_impl_PathTick ((d1).1) ((d1).2)).At).Host) = ((((d1).1).At).Host)) && decide ((((F_impl_PathTick ((d1).1) ((d1).2)).At).Port) = ((((d1).1).At).Port)))) ?_
  rcases bf (decide ((((F_impl_PathTick ((d1).1) ((d1).2)).At).Host) = ((((d1).1).At).Host)) && decide ((((F_impl_PathTick ((d1).1) ((d1).2)).At).Port) = ((((d1).1).At).Port))) with h239 | h239
  ·iterate 7 refine sk h239 ?_
   refine pf (vb false) wN h239 ?_
   refine aw (vb false) ?_
   refine n3 ?_
   refine rt (vb false) ?_
   have hF249 : mvLaw x_code d0 d1 = false := by have hz : allN (mvG d1) (F_impl_PathTick d1.1 d1.2).Cands.length = true := (by first | exact allN_t (f := mvG d1) (n := (F_impl_PathTick d1.1 d1.2).Cands.length) (k := i) hi1 (by omega) | exact allN_iff.2 (fun j _ => by simp only [mvG, h174, h176, h184, h187, h193, h204, h210, h212, h214, h239, cond_true, cond_false])); simp only [mvLaw, h8, h172, cond_true, cond_false]; simp only [mvR, hz, h174, h176, h184, h187, h193, h204, h210, h212, h214, h239, cond_true, cond_false]; try rfl
   exact ⟨d0, d1, m209.keep0, q13, q121, by rw [hF249]⟩
  refine pu (vp g152 2) (wS h239) ?_
  refine ld (vs a143 ((F_impl_PathTick ((d1).1) ((d1).2)).Cands).length c144) (wS h239) isAgg_26 b237 ?_
  have o243 := (OLv.kp o203 k208)
  obtain ⟨y241, r242⟩ := RLv.row (OLv.rl o243)
  refine ln (wS h239) slTy_26 r242 ?_
  refine pu (vp g131 2) (wS h239) ?_
  refine ld (vs a122 (((d1).1).Cands).length c123) (wS h239) isAgg_26 b238 ?_
  have o246 := (OLv.kp o207 k208)
  obtain ⟨y244, r245⟩ := RLv.row (OLv.rl o246)
  refine ln (wS h239) slTy_26 r245 ?_
  refine pu (vb (decide ((((F_impl_PathTick ((d1).1) ((d1).2)).Cands).length : Int) ≤ ((((d1).1).Cands).length : Int)))) (wS h239) ?_
  refine pk (vb (decide ((((F_impl_PathTick ((d1).1) ((d1).2)).Cands).length : Int) ≤ ((((d1).1).Cands).length : Int)))) wN h239 ?_
  refine aw (vb (decide ((((F_impl_PathTick ((d1).1) ((d1).2)).Cands).length : Int) ≤ ((((d1).1).Cands).length : Int)))) ?_
  refine n3 ?_
  refine rt (vb (decide ((((F_impl_PathTick ((d1).1) ((d1).2)).Cands).length : Int) ≤ ((((d1).1).Cands).length : Int)))) ?_
  have hF247 : mvLaw x_code d0 d1 = decide ((((F_impl_PathTick ((d1).1) ((d1).2)).Cands).length : Int) ≤ ((((d1).1).Cands).length : Int)) := by have hz : allN (mvG d1) (F_impl_PathTick d1.1 d1.2).Cands.length = true := (by first | exact allN_t (f := mvG d1) (n := (F_impl_PathTick d1.1 d1.2).Cands.length) (k := i) hi1 (by omega) | exact allN_iff.2 (fun j _ => by simp only [mvG, h174, h176, h184, h187, h193, h204, h210, h212, h214, h239, cond_true, cond_false])); simp only [mvLaw, h8, h172, cond_true, cond_false]; simp only [mvR, hz, h174, h176, h184, h187, h193, h204, h210, h212, h214, h239, cond_true, cond_false]; try rfl
  exact ⟨d0, d1, m209.keep0, q13, q121, by rw [hF247]⟩
end Go.Proofs.Ytdbjmgkiccfhcaa.K
