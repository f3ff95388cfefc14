import Derived.Test.YtafcngfnhhchjaaCore
import Derived.Test.YtafcngfnhhchjaaProg
import Derived.Test.YtafcngfnhhchjaaHeld
import Derived.Test.YtafcngfnhhchjaaFun
import Derived.Test.YtafcngfnhhchjaaFunZ
import Derived.Test.YtafcngfnhhchjaaSqz
import Derived.Test.YtafcngfnhhchjaaHash
import Derived.Test.YtafcngfnhhchjaaCur
import Derived.Test.YtafcngfnhhchjaaDrawW
import Derived.Test.YtafcngfnhhchjaaWq2
namespace Go.Proofs.Ytafcngfnhhchjaa.K
open Go.RowKit
set_option linter.unusedVariables false
set_option linter.unusedSimpArgs false
set_option maxRecDepth 100000
set_option maxHeartbeats 4000000
theorem mQ_22 {w : World} {x : List UInt8} {a : Option Addr} {b : Nat} (d : Rd w 1 (.slice a x.length b) x.length (x.map bV)) (e : x.length ≤ 9223372036854775807) : Q_22 w (vs a x.length b) x := ⟨_, _, rfl, d, e⟩
def l_FnLeads (b : List UInt8) (a : (List UInt8) × (List UInt8) × (Int)) : (Bool) := bif (l_big b) then (true) else (bif (decide ((leadsP ((a).1) ((a).2.1) ((a).2.2)) = (leadsP ((a).1) ((a).2.1) ((a).2.2)))) then (bif (decide ((leadsP ((a).1) ((a).2.1) ((a).2.2)) < 0)) then (bif (decide (0 ≤ (leadsP ((a).1) (chain ((a).1) ((l_at b 2) % 6)) ((l_at b 2) % 6)))) then (decide ((leadsP ((a).1) (chain ((a).1) ((l_at b 2) % 6)) ((l_at b 2) % 6)) ≤ ((l_at b 2) % 6))) else (false)) else (bif (decide ((leadsP ((a).1) ((a).2.1) ((a).2.2)) ≤ (a).2.2)) then (bif (l_same (chain ((a).1) (leadsP ((a).1) ((a).2.1) ((a).2.2))) ((a).2.1)) then (bif (decide (0 ≤ (leadsP ((a).1) (chain ((a).1) ((l_at b 2) % 6)) ((l_at b 2) % 6)))) then (decide ((leadsP ((a).1) (chain ((a).1) ((l_at b 2) % 6)) ((l_at b 2) % 6)) ≤ ((l_at b 2) % 6))) else (false)) else (false)) else (false))) else (false))
theorem clFnLeads (u : World) (N : Value) (b : List UInt8) (X : Q_22 u N b)  : Fn Try.prog 4 #[N] u (fun v Y => ∃ (a : (List UInt8) × (List UInt8) × (Int)), Keep u Y ∧ (True) ∧ v = vb (l_FnLeads b a)) := by
 obtain ⟨y, A, rfl, C, Z⟩ := X
 refine fn_ofS (n := 61) [(vs y b.length A)] Try.func4 rfl rfl ?_
 refine sr ?_
 refine aw (vb false) ?_
 refine n4 ?_
 refine mw (vs y b.length A) ?_
 refine cl wN (clbig u _ b (mQ_22 C Z)) ?_
 rintro _ p ⟨aa, rfl⟩
 have D := (Ch.base u).extk aa
 refine n2 ?_
 rcases bt (l_big b) with f | f
 ·refine ct f ?_
  refine sr ?_
  refine aw (vb true) ?_
  refine n1 ?_
  refine rt (vb true) ?_
  have ab : l_FnLeads b (([], [], 0)) = true := by first | (simp only [l_FnLeads, f, cond_true, cond_false, decide_true]; done) | (exfalso; first | (simp at f; done)) | (unfold l_FnLeads; try simp only [f, cond_true, cond_false]; done) | (unfold l_FnLeads; try rw [f]; first | done | rfl)
  exact ⟨(([], [], 0)), D.keep0, (by first | trivial | decide | (simp; done)), by rw [ab]⟩
 have a6 := big_f f
 refine cf f ?_
 refine y1 ?_
 refine mw (vs y b.length A) ?_
 refine cl wN (csDrawLeads p _ b (mR_22 (C.from0 D) (by omega))) ?_
 rintro _ r ⟨a, ac, ⟨k, l, s, t, rfl, F, w, B, G, a7⟩, q⟩
 refine mw (.tuple #[(vs k ((a).1).length l), (vs s ((a).2.1).length t), (vi ((a).2.2))]) ?_
 refine pu (vs k ((a).1).length l) wN ?_
 refine pu (vs s ((a).2.1).length t) wN ?_
 refine pu (vi ((a).2.2)) wN ?_
 refine aw (vs k ((a).1).length l) ?_
 refine aw (vs s ((a).2.1).length t) ?_
 refine aw (vi ((a).2.2)) ?_
 refine nx ?_
 refine mw (vs k ((a).1).length l) ?_
 refine mw (vs s ((a).2.1).length t) ?_
 refine mw (vi ((a).2.2)) ?_
 refine cl wN (ciLeads r _ ((a).1) (mR_22 (Rd.of_own F) w) _ ((a).2.1) (mR_22 (Rd.of_own B) G) ((a).2.2)) ?_
 rintro _ ad ⟨H, rfl⟩
 have O := (D.extk ac).extk H
 refine aw (vi (leadsP ((a).1) ((a).2.1) ((a).2.2))) ?_
 refine nx ?_
 refine mw (vs y b.length A) ?_
 refine cl wN (clat ad _ b (mR_22 (C.from0 O) (by omega)) 2 (by omega)) ?_
 rintro _ ae ⟨I, rfl⟩
 have a8 := at_b b 2
 refine wl_rem (l_at b 2) 6 wN rfl rfl (by kernel_rfl) (by first | omega | assumption) ?_
 refine aw (vi ((l_at b 2) % 6)) ?_
 refine nx ?_
 refine mw (vs k ((a).1).length l) ?_
 refine mw (vs k ((a).1).length l) ?_
 refine mw (vi ((l_at b 2) % 6)) ?_
 have af := fun (E sz n : Nat) (v : Value) (m : List Value) (o : World.ownsRow r p.heap.size E sz v n m) (P : World.ownsRow r p.heap.size E sz v n m) => (own_kp (own_kp o H) I)
 have Q := (af _ _ _ _ _ F F)
 refine cl wN (ciChain ae _ ((a).1) (mR_22 (Rd.of_own Q) w) ((l_at b 2) % 6)) ?_
 rintro _ ah ⟨J, ⟨a9, aA, rfl, ai, aj, aB⟩⟩
 have ak := (O.extk I).extk J
 have aC := chain_le ((a).1) ((l_at b 2) % 6)
 refine mw (vi ((l_at b 2) % 6)) ?_
 have R := (own_kp Q J)
 refine cl wN (ciLeads ah _ ((a).1) (mR_22 (Rd.of_own R) w) _ (chain ((a).1) ((l_at b 2) % 6)) (mR_22 (Rd.of_own ai) aj) ((l_at b 2) % 6)) ?_
 rintro _ S ⟨K, rfl⟩
 refine aw (vi (leadsP ((a).1) (chain ((a).1) ((l_at b 2) % 6)) ((l_at b 2) % 6))) ?_
 refine nx ?_
 refine mw (vi (leadsP ((a).1) ((a).2.1) ((a).2.2))) ?_
 refine mw (vs k ((a).1).length l) ?_
 refine mw (vs s ((a).2.1).length t) ?_
 refine mw (vi ((a).2.2)) ?_
 have T := (own_kp R K)
 have am := fun (E sz n : Nat) (v : Value) (m : List Value) (o : World.ownsRow r p.heap.size E sz v n m) (P : World.ownsRow r p.heap.size E sz v n m) => (own_kp (own_kp (own_kp (own_kp o H) I) J) K)
 have V := (am _ _ _ _ _ B B)
 refine cl wN (csLeads S _ ((a).1) (mR_22 (Rd.of_own T) w) _ ((a).2.1) (mR_22 (Rd.of_own V) G) ((a).2.2)) ?_
 rintro _ an ⟨L, rfl⟩
 have x := (ak.extk K).extk L
 refine pu (vb (decide ((leadsP ((a).1) ((a).2.1) ((a).2.2)) = (leadsP ((a).1) ((a).2.1) ((a).2.2))))) wN ?_
 refine mw (vb (decide ((leadsP ((a).1) ((a).2.1) ((a).2.2)) = (leadsP ((a).1) ((a).2.1) ((a).2.2))))) ?_
 rcases bf (decide ((leadsP ((a).1) ((a).2.1) ((a).2.2)) = (leadsP ((a).1) ((a).2.1) ((a).2.2)))) with d | d
 ·have aD := dF d
  iterate 3 refine sk d ?_
  refine su ?_
  refine su ?_
  refine su ?_
  refine su ?_
  refine su ?_
  refine su ?_
  refine su ?_
  refine su ?_
  refine su ?_
  refine su ?_
  refine sk d ?_
  refine pf (vb false) wN d ?_
  refine mw (vb false) ?_
  iterate 2 refine sk (Eq.refl false) ?_
  refine pf (vb false) wN (Eq.refl false) ?_
  refine mw (vb false) ?_
  iterate 3 refine sk (Eq.refl false) ?_
  refine pf (vb false) wN (Eq.refl false) ?_
  refine aw (vb false) ?_
  refine n3 ?_
  refine rt (vb false) ?_
  have ao : l_FnLeads b a = false := by first | (simp only [l_FnLeads, f, d, cond_true, cond_false, decide_true]; done) | (exfalso; first | (simp at d; done) | (simp at f; done)) | (unfold l_FnLeads; try simp only [f, cond_true, cond_false]; try simp only [d, cond_true, cond_false]; done) | (unfold l_FnLeads; try rw [f]; try rw [d]; first | done | rfl)
  exact ⟨a, x.keep0, q, by rw [ao]⟩
 have aE := dT d
 refine mv (vi (leadsP ((a).1) ((a).2.1) ((a).2.2))) (wS d) ?_
 refine pu (vb (decide ((leadsP ((a).1) ((a).2.1) ((a).2.2)) < 0))) (wS d) ?_
 refine mv (vb (decide ((leadsP ((a).1) ((a).2.1) ((a).2.2)) < 0))) (wS d) ?_
 rcases bt (decide ((leadsP ((a).1) ((a).2.1) ((a).2.2)) < 0)) with e | e
 ·have aF := dT e
  iterate 4 refine sk e ?_
  refine su ?_
  refine su ?_
  refine su ?_
  refine su ?_
  refine su ?_
  refine sk e ?_
  refine pk (vb true) (wS d) e ?_
  refine pk (vb true) wN d ?_
  refine mw (vb true) ?_
  refine mv (vi (leadsP ((a).1) (chain ((a).1) ((l_at b 2) % 6)) ((l_at b 2) % 6))) (wS (Eq.refl true)) ?_
  refine pu (vb (decide (0 ≤ (leadsP ((a).1) (chain ((a).1) ((l_at b 2) % 6)) ((l_at b 2) % 6))))) (wS (Eq.refl true)) ?_
  refine pk (vb (decide (0 ≤ (leadsP ((a).1) (chain ((a).1) ((l_at b 2) % 6)) ((l_at b 2) % 6))))) wN (Eq.refl true) ?_
  refine mw (vb (decide (0 ≤ (leadsP ((a).1) (chain ((a).1) ((l_at b 2) % 6)) ((l_at b 2) % 6))))) ?_
  rcases bf (decide (0 ≤ (leadsP ((a).1) (chain ((a).1) ((l_at b 2) % 6)) ((l_at b 2) % 6)))) with i | i
  ·have aG := dF i
   iterate 3 refine sk i ?_
   refine pf (vb false) wN i ?_
   refine aw (vb false) ?_
   refine n3 ?_
   refine rt (vb false) ?_
   have ap : l_FnLeads b a = false := by first | (simp only [l_FnLeads, f, d, e, i, cond_true, cond_false, decide_true]; done) | (exfalso; first | (simp at i; done) | (simp at e; done) | (simp at d; done) | (simp at f; done)) | (unfold l_FnLeads; try simp only [f, cond_true, cond_false]; try simp only [d, cond_true, cond_false]; try simp only [e, cond_true, cond_false]; try simp only [i, cond_true, cond_false]; done) | (unfold l_FnLeads; try rw [f]; try rw [d]; try rw [e]; try rw [i]; first | done | rfl)
   exact ⟨a, x.keep0, q, by rw [ap]⟩
  have aH := dT i
  refine mv (vi (leadsP ((a).1) (chain ((a).1) ((l_at b 2) % 6)) ((l_at b 2) % 6))) (wS i) ?_
  refine mv (vi ((l_at b 2) % 6)) (wS i) ?_
  refine pu (vb (decide ((leadsP ((a).1) (chain ((a).1) ((l_at b 2) % 6)) ((l_at b 2) % 6)) ≤ ((l_at b 2) % 6)))) (wS i) ?_
  refine pk (vb (decide ((leadsP ((a).1) (chain ((a).1) ((l_at b 2) % 6)) ((l_at b 2) % 6)) ≤ ((l_at b 2) % 6)))) wN i ?_
  refine aw (vb (decide ((leadsP ((a).1) (chain ((a).1) ((l_at b 2) % 6)) ((l_at b 2) % 6)) ≤ ((l_at b 2) % 6)))) ?_
  refine n3 ?_
  refine rt (vb (decide ((leadsP ((a).1) (chain ((a).1) ((l_at b 2) % 6)) ((l_at b 2) % 6)) ≤ ((l_at b 2) % 6)))) ?_
  have aq : l_FnLeads b a = decide ((leadsP ((a).1) (chain ((a).1) ((l_at b 2) % 6)) ((l_at b 2) % 6)) ≤ ((l_at b 2) % 6)) := by first | (simp only [l_FnLeads, f, d, e, i, cond_true, cond_false, decide_true]; done) | (exfalso; first | (simp at i; done) | (simp at e; done) | (simp at d; done) | (simp at f; done)) | (unfold l_FnLeads; try simp only [f, cond_true, cond_false]; try simp only [d, cond_true, cond_false]; try simp only [e, cond_true, cond_false]; try simp only [i, cond_true, cond_false]; done) | (unfold l_FnLeads; try rw [f]; try rw [d]; try rw [e]; try rw [i]; first | done | rfl)
  exact ⟨a, x.keep0, q, by rw [aq]⟩
 have aI := dF e
 refine mv (vi (leadsP ((a).1) ((a).2.1) ((a).2.2))) (wS e) ?_
 refine mv (vi ((a).2.2)) (wS e) ?_
 refine pu (vb (decide ((leadsP ((a).1) ((a).2.1) ((a).2.2)) ≤ (a).2.2))) (wS e) ?_
 refine mv (vb (decide ((leadsP ((a).1) ((a).2.1) ((a).2.2)) ≤ (a).2.2))) (wS e) ?_
 rcases bf (decide ((leadsP ((a).1) ((a).2.1) ((a).2.2)) ≤ (a).2.2)) with g | g
 ·have aJ := dF g
  iterate 5 refine sk g ?_
  refine pf (vb false) (wS e) g ?_
  refine pf (vb false) (wS d) e ?_
  refine pk (vb false) wN d ?_
  refine mw (vb false) ?_
  iterate 2 refine sk (Eq.refl false) ?_
  refine pf (vb false) wN (Eq.refl false) ?_
  refine mw (vb false) ?_
  iterate 3 refine sk (Eq.refl false) ?_
  refine pf (vb false) wN (Eq.refl false) ?_
  refine aw (vb false) ?_
  refine n3 ?_
  refine rt (vb false) ?_
  have au : l_FnLeads b a = false := by first | (simp only [l_FnLeads, f, d, e, g, cond_true, cond_false, decide_true]; done) | (exfalso; first | (simp at g; done) | (simp at e; done) | (simp at d; done) | (simp at f; done)) | (unfold l_FnLeads; try simp only [f, cond_true, cond_false]; try simp only [d, cond_true, cond_false]; try simp only [e, cond_true, cond_false]; try simp only [g, cond_true, cond_false]; done) | (unfold l_FnLeads; try rw [f]; try rw [d]; try rw [e]; try rw [g]; first | done | rfl)
  exact ⟨a, x.keep0, q, by rw [au]⟩
 have aK := dT g
 refine mv (vs k ((a).1).length l) (wS g) ?_
 refine mv (vi (leadsP ((a).1) ((a).2.1) ((a).2.2))) (wS g) ?_
 have av := (own_kp T L)
 refine cl (wS g) (ciChain an _ ((a).1) (mR_22 (Rd.of_own av) w) (leadsP ((a).1) ((a).2.1) ((a).2.2))) ?_
 rintro _ ax ⟨W, ⟨aL, aM, rfl, ay, az, aN⟩⟩
 have aO := chain_le ((a).1) (leadsP ((a).1) ((a).2.1) ((a).2.2))
 refine mv (vs s ((a).2.1).length t) (wS g) ?_
 have a0 := fun (E sz n : Nat) (v : Value) (m : List Value) (o : World.ownsRow S p.heap.size E sz v n m) (P : World.ownsRow r p.heap.size E sz v n m) => (own_kp (own_kp o L) W)
 have a1 := (a0 _ _ _ _ _ V B)
 refine cl (wS g) (clsame ax _ (chain ((a).1) (leadsP ((a).1) ((a).2.1) ((a).2.2))) (mR_22 (Rd.of_own ay) az) _ ((a).2.1) (mR_22 (Rd.of_own a1) G)) ?_
 rintro _ aP ⟨a2, rfl⟩
 have M := (x.extk W).extk a2
 refine pk (vb (l_same (chain ((a).1) (leadsP ((a).1) ((a).2.1) ((a).2.2))) ((a).2.1))) (wS e) g ?_
 refine pf (vb (l_same (chain ((a).1) (leadsP ((a).1) ((a).2.1) ((a).2.2))) ((a).2.1))) (wS d) e ?_
 refine pk (vb (l_same (chain ((a).1) (leadsP ((a).1) ((a).2.1) ((a).2.2))) ((a).2.1))) wN d ?_
 refine mw (vb (l_same (chain ((a).1) (leadsP ((a).1) ((a).2.1) ((a).2.2))) ((a).2.1))) ?_
 rcases bf (l_same (chain ((a).1) (leadsP ((a).1) ((a).2.1) ((a).2.2))) ((a).2.1)) with h | h
 ·iterate 2 refine sk h ?_
  refine pf (vb false) wN h ?_
  refine mw (vb false) ?_
  iterate 3 refine sk (Eq.refl false) ?_
  refine pf (vb false) wN (Eq.refl false) ?_
  refine aw (vb false) ?_
  refine n3 ?_
  refine rt (vb false) ?_
  have a3 : l_FnLeads b a = false := by first | (simp only [l_FnLeads, f, d, e, g, h, cond_true, cond_false, decide_true]; done) | (exfalso; first | (simp at h; done) | (simp at g; done) | (simp at e; done) | (simp at d; done) | (simp at f; done)) | (unfold l_FnLeads; try simp only [f, cond_true, cond_false]; try simp only [d, cond_true, cond_false]; try simp only [e, cond_true, cond_false]; try simp only [g, cond_true, cond_false]; try simp only [h, cond_true, cond_false]; done) | (unfold l_FnLeads; try rw [f]; try rw [d]; try rw [e]; try rw [g]; try rw [h]; first | done | rfl)
  exact ⟨a, M.keep0, q, by rw [a3]⟩
 refine mv (vi (leadsP ((a).1) (chain ((a).1) ((l_at b 2) % 6)) ((l_at b 2) % 6))) (wS h) ?_
 refine pu (vb (decide (0 ≤ (leadsP ((a).1) (chain ((a).1) ((l_at b 2) % 6)) ((l_at b 2) % 6))))) (wS h) ?_
 refine pk (vb (decide (0 ≤ (leadsP ((a).1) (chain ((a).1) ((l_at b 2) % 6)) ((l_at b 2) % 6))))) wN h ?_
 refine mw (vb (decide (0 ≤ (leadsP ((a).1) (chain ((a).1) ((l_at b 2) % 6)) ((l_at b 2) % 6))))) ?_
 rcases bf (decide (0 ≤ (leadsP ((a).1) (chain ((a).1) ((l_at b 2) % 6)) ((l_at b 2) % 6)))) with j | j
 ·have aQ := dF j
  iterate 3 refine sk j ?_
  refine pf (vb false) wN j ?_
  refine aw (vb false) ?_
  refine n3 ?_
  refine rt (vb false) ?_
  have a4 : l_FnLeads b a = false := by first | (simp only [l_FnLeads, f, d, e, g, h, j, cond_true, cond_false, decide_true]; done) | (exfalso; first | (simp at j; done) | (simp at h; done) | (simp at g; done) | (simp at e; done) | (simp at d; done)) | (unfold l_FnLeads; try simp only [f, cond_true, cond_false]; try simp only [d, cond_true, cond_false]; try simp only [e, cond_true, cond_false]; try simp only [g, cond_true, cond_false]; try simp only [h, cond_true, cond_false]; try simp only [j, cond_true, cond_false]; done) | (unfold l_FnLeads; try rw [f]; try rw [d]; try rw [e]; try rw [g]; try rw [h]; try rw [j]; first | done | rfl)
  exact ⟨a, M.keep0, q, by rw [a4]⟩
 have aR := dT j
 refine mv (vi (leadsP ((a).1) (chain ((a).1) ((l_at b 2) % 6)) ((l_at b 2) % 6))) (wS j) ?_
 refine mv (vi ((l_at b 2) % 6)) (wS j) ?_
 refine pu (vb (decide ((leadsP ((a).1) (chain ((a).1) ((l_at b 2) % 6)) ((l_at b 2) % 6)) ≤ ((l_at b 2) % 6)))) (wS j) ?_
 refine pk (vb (decide ((leadsP ((a).1) (chain ((a).1) ((l_at b 2) % 6)) ((l_at b 2) % 6)) ≤ ((l_at b 2) % 6)))) wN j ?_
 refine aw (vb (decide ((leadsP ((a).1) (chain ((a).1) ((l_at b 2) % 6)) ((l_at b 2) % 6)) ≤ ((l_at b 2) % 6)))) ?_
 refine n3 ?_
 refine rt (vb (decide ((leadsP ((a).1) (chain ((a).1) ((l_at b 2) % 6)) ((l_at b 2) % 6)) ≤ ((l_at b 2) % 6)))) ?_
 have a5 : l_FnLeads b a = decide ((leadsP ((a).1) (chain ((a).1) ((l_at b 2) % 6)) ((l_at b 2) % 6)) ≤ ((l_at b 2) % 6)) := by first | (simp only [l_FnLeads, f, d, e, g, h, j, cond_true, cond_false, decide_true]; done) | (exfalso; first | (simp at j; done) | (simp at h; done) | (simp at g; done) | (simp at e; done) | (simp at d; done)) | (unfold l_FnLeads; try simp only [f, cond_true, cond_false]; try simp only [d, cond_true, cond_false]; try simp only [e, cond_true, cond_false]; try simp only [g, cond_true, cond_false]; try simp only [h, cond_true, cond_false]; try simp only [j, cond_true, cond_false]; done) | (unfold l_FnLeads; try rw [f]; try rw [d]; try rw [e]; try rw [g]; try rw [h]; try rw [j]; first | done | rfl)
 exact ⟨a, M.keep0, q, by rw [a5]⟩
end Go.Proofs.Ytafcngfnhhchjaa.K
