/- Regions that draw their order: what an operation found is dead once a store that waits for all its users is done. It names no program. -/
import Derived.Test.YtdbjmgkiccfhcaaDrawW
import Derived.Test.YtdbjmgkiccfhcaaList
import Derived.Test.YtdbjmgkiccfhcaaFlat
namespace Go.Proofs.Ytdbjmgkiccfhcaa.K
open Go.RowKit Go.ChangeShapes Go.WideShapes
set_option linter.unusedVariables false
section drawK
variable {P : Program} {Q : Exit → Act → World → Prop} {n : Nat} {e : Env} {w : World}
def okKill (Gs : GV) (kl : List (List Nat)) (alive : List Nat) : Bool := ((List.range kl.length).all fun j => (kl.getD j []).all fun k => Nat.blt k Gs.length) && (alive.all fun j => (kl.getD j []).isEmpty)
theorem okKill_spec {Gs : GV} {kl : List (List Nat)} {alive : List Nat} (h : okKill Gs kl alive = true) (j k : Nat) (hk : (kl.getD j []).elem k = true) : k < Gs.length := by
  unfold okKill at h
  rw [Bool.and_eq_true] at h
  by_cases hj : j < kl.length
  · have h1 := List.all_eq_true.1 h.1 j (List.mem_range.2 hj)
    simpa using List.all_eq_true.1 h1 k (List.mem_of_elem_eq_true hk)
  · rw [List.getD_eq_getElem?_getD, List.getElem?_eq_none (by omega)] at hk
    simp at hk
/-- what operation i may use: what is not dead yet when it runs -/
def dkOf (Gs : GV) (kl : List (List Nat)) (i : Nat) (cl : List Nat) : List Nat := cl.filter fun j => (kl.getD j []).all fun k => Nat.beq i k || (clOf Gs k).elem i
def StepsK (P : Program) (ops : Array Oper) (Q : Exit → Act → World → Prop) (n : Nat) (R : LF → World → Prop) (Ts : TR) (e : Env) (Gs : GV) (wts kl : List (List Nat)) : Nat → List Oper → GV → Prop
  | i, o :: r, (d, _, cl, G) :: gs => (∀ lf w, R lf w → NBp Gs lf i Ts → DepW w (fun e' => WL P ops (QT Q n d G (tsOf Ts i) w e') [o] n e' w) (dkOf Gs kl i cl) (wts.getD i []) 0 Gs e) ∧ StepsK P ops Q n R Ts e Gs wts kl (i + 1) r gs
  | _, _, _ => True
theorem stepsK_spec {ops : Array Oper} {R : LF → World → Prop} {Ts : TR} {Gs : GV} {wts kl : List (List Nat)} : ∀ (i0 : Nat) (l : List Oper) (gs : GV), StepsK P ops Q n R Ts e Gs wts kl i0 l gs → ∀ (j : Nat) (o : Oper) (d : Nat) (ds cl : List Nat) (G : Env → Value → World → Prop), l[j]? = some o → gs[j]? = some (d, ds, cl, G) →
    ∀ lf w, R lf w → NBp Gs lf (i0 + j) Ts → DepW w (fun e' => WL P ops (QT Q n d G (tsOf Ts (i0 + j)) w e') [o] n e' w) (dkOf Gs kl (i0 + j) cl) (wts.getD (i0 + j) []) 0 Gs e
  | i0, o0 :: r, (d0, ds0, cl0, G0) :: gs, hs, j, o, d, ds, cl, G, ho, hg => by
    cases j with
    | zero => simp at ho hg; obtain ⟨rfl, rfl, rfl, rfl⟩ := hg; subst ho; exact hs.1
    | succ j =>
      have := stepsK_spec (i0 + 1) r gs hs.2 j o d ds cl G (by simpa using ho) (by simpa using hg)
      rwa [show i0 + 1 + j = i0 + (j + 1) by omega] at this
  | _, [], _, _, j, o, d, ds, cl, G, ho, _ => by simp at ho
  | _, _ :: _, [], _, j, o, d, ds, cl, G, _, hg => by simp at hg
theorem okKill_alive {Gs : GV} {kl : List (List Nat)} {alive : List Nat} (h : okKill Gs kl alive = true) (j : Nat) (hj : alive.elem j = true) : kl.getD j [] = [] := by
  unfold okKill at h
  rw [Bool.and_eq_true] at h
  simpa using List.all_eq_true.1 h.2 j (List.mem_of_elem_eq_true hj)
theorem mem_dk {Gs : GV} {kl : List (List Nat)} {i j : Nat} {cl : List Nat} (h : (dkOf Gs kl (0 + i) cl).elem (0 + j) = true) : j ∈ cl ∧ ∀ k, (kl.getD j []).elem k = true → i = k ∨ i ∈ clOf Gs k := by
  rw [Nat.zero_add, Nat.zero_add] at h
  have h1 := List.mem_filter.1 (List.mem_of_elem_eq_true h)
  refine ⟨h1.1, fun k hk => ?_⟩
  rcases Bool.or_eq_true_iff.1 (List.all_eq_true.1 h1.2 k (List.mem_of_elem_eq_true hk)) with h2 | h2
  · exact .inl (Nat.eq_of_beq_eq_true h2)
  · exact .inr (List.mem_of_elem_eq_true h2)
def StabTK (kl : List (List Nat)) (T : World → World → Prop) (j : Nat) : Nat → GV → Prop
  | _, [] => True
  | i, (_, _, _, G) :: r => (i = j ∨ (kl.getD i []).elem j = true ∨ ∀ e v w w', G e v w → T w w' → G e v w') ∧ StabTK kl T j (i + 1) r
def StabTsK (kl : List (List Nat)) (Gs : GV) : TR → Prop
  | [] => True
  | (j, T) :: r => StabTK kl T j 0 Gs ∧ StabTsK kl Gs r
theorem tsOfK_cases {R : LF → World → Prop} {Gs : GV} {kl : List (List Nat)} (hK : ∀ lf lf' w w', R lf w → (∀ m, lf' m = false → lf m = false) → Keep w w' → R lf' w') (hst : StabV Gs) : ∀ (Ts : TR), RStab R Ts → StabTsK kl Gs Ts → ∀ i : Nat,
    (∀ lf lf' w w', R lf w → (∀ m, lf' m = false → lf m = false) → lf' i = true → tsOf Ts i w w' → R lf' w') ∧ (∀ (j d : Nat) (ds cl : List Nat) (G : Env → Value → World → Prop), Gs[j]? = some (d, ds, cl, G) → j ≠ i → (kl.getD j []).elem i = false → ∀ e v w w', G e v w → tsOf Ts i w w' → G e v w')
  | [], _, _, i => ⟨fun lf lf' w w' h1 h2 _ h3 => hK lf lf' w w' h1 h2 h3, fun j d ds cl G hj _ _ e v w w' hG hk => (stabV_spec Gs hst j d ds cl G hj).1 e v w w' hG hk⟩
  | (j0, T) :: r, hR, hS, i => by
    have ih := tsOfK_cases hK hst r hR.2 hS.2 i
    rcases hb : Nat.beq i j0 with _ | _
    rotate_left
    · have hts : tsOf ((j0, T) :: r) i = T := by simp only [tsOf, hb]
      rw [hts]
      have hij := Nat.eq_of_beq_eq_true hb
      subst hij
      refine ⟨hR.1, ?_⟩
      have aux : ∀ (gs : GV) (m : Nat), StabTK kl T i m gs → ∀ (j d : Nat) (ds cl : List Nat) (G : Env → Value → World → Prop), gs[j]? = some (d, ds, cl, G) → m + j ≠ i → (kl.getD (m + j) []).elem i = false → ∀ e v w w', G e v w → T w w' → G e v w' := by
        intro gs
        induction gs with
        | nil => intro m _ j d ds cl G hj; simp at hj
        | cons p gs ihg =>
          intro m hs j d ds cl G hj hne hkn
          cases j with
          | zero =>
            simp at hj
            subst hj
            rcases hs.1 with h1 | h1 | h1
            · exact absurd h1 (by simpa using hne)
            · rw [Nat.add_zero] at hkn; rw [hkn] at h1; cases h1
            · exact h1
          | succ j => exact ihg (m + 1) hs.2 j d ds cl G (by simpa using hj) (by omega) (by rwa [show m + 1 + j = m + (j + 1) by omega])
      intro j d ds cl G hj hne hkn
      exact aux Gs 0 hS.1 j d ds cl G hj (by omega) (by rwa [Nat.zero_add])
    · have hts : tsOf ((j0, T) :: r) i = tsOf r i := by simp only [tsOf, hb]
      rw [hts]
      exact ih
theorem draw_frontK {l : List Oper} {Gs : GV} {R : LF → World → Prop} {Ts : TR} {wts kl : List (List Nat)} {alive : List Nat} (hwt : okWaits Gs wts = true) (hkl : okKill Gs kl alive = true) (he : okEdgesC Gs 0 l = true) (hf : okFrontT Gs [] l Gs = true) (hst : StabV Gs) (hK : ∀ lf lf' w w', R lf w → (∀ m, lf' m = false → lf m = false) → Keep w w' → R lf' w') (hRT : RStab R Ts) (hTs : StabTsK kl Gs Ts) (hsv : StepsK P l.toArray Q n R Ts e Gs wts kl 0 l Gs) (hlen : Gs.length ≤ l.length)
    (hk : ∀ lf w, R lf w → DepW w (fun e' => WL P l.toArray Q (l.drop Gs.length) n e' w) alive [] 0 Gs e) :
    ∀ (fuel : Nat) (listed : Array Bool) (a : Act) (e' : Env) (w : World), Fits n e' a → R (fun j => listed.getD j false) w → listed.size = l.length →
      (∀ i, Gs.length ≤ i → listed.getD i false = false) → (∀ t, (∀ p ∈ Gs, p.1 ≠ t) → e' t = e t) → (∀ (j : Nat) (p : Nat × List Nat × List Nat × (Env → Value → World → Prop)), Gs[j]? = some p → listed.getD j false = false → e' p.1 = e p.1) → (∀ j d ds cl G, Gs[j]? = some (d, ds, cl, G) → listed.getD j false = true → (∀ k, (kl.getD j []).elem k = true → listed.getD k false = false) → G e' (e' d) w) →
      (∀ j o, l[j]? = some o → j < Gs.length → listed.getD j false = true → ∀ x ∈ depsOf o, listed.getD x false = true) →
      ((List.range l.length).filter fun i => !listed.getD i true).length ≤ fuel → wpAny P .any l.toArray Q fuel listed a w := by
  obtain ⟨hf1, hf2⟩ := okFrontT_spec (Gs := Gs) Gs [] l hf
  have hcase := tsOfK_cases hK hst Ts hRT hTs
  intro fuel
  have cllt : ∀ (j d : Nat) (ds cl : List Nat) (G : Env → Value → World → Prop), Gs[j]? = some (d, ds, cl, G) → ∀ x ∈ cl, x < j := by
    intro j
    induction j using Nat.strongRecOn with
    | _ j ih =>
      intro d ds cl G hj x hx
      obtain ⟨⟨o, ho, -, -, hcl⟩, -⟩ := hf1 j d ds cl G hj
      rcases hcl x hx with h | ⟨i, hi, p, hp, hxp⟩
      · have := (okEdgesC_spec l 0 he j o ho).1 x h; omega
      · have h1 := (okEdgesC_spec l 0 he j o ho).1 i hi
        have := ih i (by omega) p.1 p.2.1 p.2.2.1 p.2.2.2 hp x hxp
        omega
  have clin : ∀ (listed : Array Bool), (∀ j o, l[j]? = some o → j < Gs.length → listed.getD j false = true → ∀ x ∈ depsOf o, listed.getD x false = true) →
      ∀ (j d : Nat) (ds cl : List Nat) (G : Env → Value → World → Prop), Gs[j]? = some (d, ds, cl, G) → (∀ o, l[j]? = some o → ∀ x ∈ depsOf o, listed.getD x false = true) → ∀ x ∈ cl, listed.getD x false = true := by
    intro listed hcl0 j
    induction j using Nat.strongRecOn with
    | _ j ih =>
      intro d ds cl G hj hd x hx
      obtain ⟨⟨o, ho, -, -, hcl⟩, -⟩ := hf1 j d ds cl G hj
      rcases hcl x hx with h | ⟨i, hi, p, hp, hxp⟩
      · exact hd o ho x h
      · have h1 := (okEdgesC_spec l 0 he j o ho).1 i hi
        exact ih i (by omega) p.1 p.2.1 p.2.2.1 p.2.2.2 hp (fun o' ho' => hcl0 i o' ho' (List.getElem?_eq_some_iff.1 hp).1 (hd o ho i hi)) x hxp
  -- a fact may be said of the chain of updates in place of the environment
  have loc : ∀ (j d : Nat) (ds cl : List Nat) (G : Env → Value → World → Prop), Gs[j]? = some (d, ds, cl, G) → ∀ (e' : Env) (w : World), G e' (e' d) w → G ((Gs.take j).foldl (fun e p => upd e p.1 (e' p.1)) e) (e' d) w := by
    intro j d ds cl G hj e' w hG
    refine (stabV_spec Gs hst j d ds cl G hj).2 e' _ _ _ (fun x hx => ?_) hG
    obtain ⟨⟨o, ho, -, hds, -⟩, -⟩ := hf1 j d ds cl G hj
    obtain ⟨i, hi, p, hp, rfl⟩ := hds x hx
    exact (fold_take Gs e j i p hp (cllt j d ds cl G hj i hi)).symm
  -- all of the front is done
  have done : ∀ (fuel : Nat) (listed : Array Bool) (a : Act) (e' : Env) (w : World), Fits n e' a → R (fun j => listed.getD j false) w → listed.size = l.length → (∀ i, Gs.length ≤ i → listed.getD i false = false) →
      (∀ t, (∀ p ∈ Gs, p.1 ≠ t) → e' t = e t) → (∀ j d ds cl G, Gs[j]? = some (d, ds, cl, G) → listed.getD j false = true → (∀ k, (kl.getD j []).elem k = true → listed.getD k false = false) → G e' (e' d) w) → (∀ i, i < Gs.length → listed.getD i false = true) →
      ((List.range l.length).filter fun i => !listed.getD i true).length ≤ fuel → wpAny P .any l.toArray Q fuel listed a w := by
    intro fuel listed a e' w ha hw hs hb ho hG hall hc
    have hK := depW_elim (e' := e') Gs 0 e (hk _ w hw) (fun j d ds cl G hj hal => loc j d ds cl G hj e' w (hG j d ds cl G hj (hall j (List.getElem?_eq_some_iff.1 hj).1) (fun k hkk => by rw [okKill_alive hkl j (by rwa [Nat.zero_add] at hal)] at hkk; cases hkk))) (fun j d ds cl G hj hal => by cases hal)
    rw [fold_eq Gs e ho] at hK
    have hl : ∀ i, i < l.length → listed.getD i false = decide (i < Gs.length) := fun i hi => by
      by_cases h : i < Gs.length
      · simp [h, hall i h]
      · simp [h, hb i (by omega)]
    refine draw_tailC rfl he (fun d hd x hx => by
      have hg := List.getElem?_eq_getElem hd
      unfold clOf at hx
      rw [hg] at hx
      exact cllt d _ _ _ _ hg x hx) fuel Gs.length listed a w (Nat.le_refl _) hlen ?_ hs hl (hK a ha)
    have hcount : ∀ (N : Nat), N ≤ l.length → N - Gs.length ≤ ((List.range N).filter fun i => !listed.getD i true).length := by
      intro N
      induction N with
      | zero => intro _; omega
      | succ N ih =>
        intro hN
        rw [List.range_succ, List.filter_append, List.length_append]
        have := ih (by omega)
        by_cases hNk : Gs.length ≤ N
        · have hf : listed.getD N true = false := by rw [getD_both (by omega) true false]; exact hb N hNk
          simp only [List.filter_cons, List.filter_nil, hf, Bool.not_false, if_true, List.length_cons, List.length_nil]
          omega
        · omega
    have := hcount l.length (Nat.le_refl _)
    omega
  induction fuel with
  | zero =>
    intro listed a e' w ha hw hs hb ho hunl hG hcl hc
    refine done 0 listed a e' w ha hw hs hb ho hG (fun i hi => ?_) hc
    have hnil : ((List.range l.length).filter fun i => !listed.getD i true) = [] := List.eq_nil_of_length_eq_zero (by omega)
    have hni : i ∉ ((List.range l.length).filter fun i => !listed.getD i true) := by rw [hnil]; simp
    rw [List.mem_filter, List.mem_range] at hni
    have hil : i < l.length := by omega
    rw [getD_both (by omega) false true]
    cases h : listed.getD i true
    · exact absurd ⟨hil, by simp [h]⟩ hni
    · rfl
  | succ fuel ih =>
    intro listed a e' w ha hw hs hb ho hunl hG hcl hc
    by_cases hall : ∀ i, i < Gs.length → listed.getD i false = true
    · exact done (fuel + 1) listed a e' w ha hw hs hb ho hG hall hc
    · -- the least one that is not listed is ready
      have hex : ∃ i, i < Gs.length ∧ listed.getD i false = false ∧ ∀ j, j < i → listed.getD j false = true := by
        have : ∃ i, i < Gs.length ∧ listed.getD i false = false := by
          refine Classical.byContradiction fun hn => hall fun i hi => ?_
          cases h : listed.getD i false
          · exact absurd ⟨i, hi, h⟩ hn
          · rfl
        obtain ⟨i, hi⟩ := this
        induction i using Nat.strongRecOn with
        | _ i ihh =>
          by_cases hj : ∃ j, j < i ∧ listed.getD j false = false
          · obtain ⟨j, hj1, hj2⟩ := hj
            exact ihh j hj1 ⟨by omega, hj2⟩
          · refine ⟨i, hi.1, hi.2, fun j hji => ?_⟩
            cases h : listed.getD j false
            · exact absurd ⟨j, hji, h⟩ hj
            · rfl
      obtain ⟨i0, hi0, hi1, hi2⟩ := hex
      have hmem : i0 ∈ Region.ready .any l.toArray listed := by
        refine ready_iff.2 ⟨by rw [getD_both (by omega) true false]; exact hi1, l[i0], List.getElem?_eq_getElem (by omega), fun j hj => hi2 j ?_⟩
        have := (okEdgesC_spec l 0 he i0 _ (List.getElem?_eq_getElem (by omega))).1 j hj
        omega
      refine ⟨(fun hn => by rw [hn] at hmem; cases hmem), fun i hi => ?_⟩
      obtain ⟨h1, o, hol, hd⟩ := ready_iff.1 hi
      have hil : i < l.length := (List.getElem?_eq_some_iff.1 hol).1
      rw [getD_both (by omega) true false] at h1
      have hik : i < Gs.length := by
        refine Classical.byContradiction fun hn => ?_
        rcases (okEdgesC_spec l 0 he i o hol).2 (by omega) i0 (by omega) with h9 | ⟨d, hd9, h9⟩
        · have := hd i0 h9
          rw [hi1] at this
          cases this
        · have h10 := hd d hd9
          rcases h9 with h9 | ⟨h9, h11⟩
          · rw [hb d h9.1] at h10; cases h10
          · have hg9 := List.getElem?_eq_getElem h9
            unfold clOf at h11
            rw [hg9] at h11
            have := clin listed hcl d _ _ _ _ hg9 (fun o' ho' => hcl d o' ho' h9 h10) i0 h11
            rw [hi1] at this
            cases this
      have hg : Gs[i]? = some (Gs[i].1, Gs[i].2.1, Gs[i].2.2.1, Gs[i].2.2.2) := List.getElem?_eq_getElem hik
      have hnb : NBp Gs (fun j => listed.getD j false) (0 + i) Ts := by
        have aux : ∀ (ts : TR), NBp Gs (fun j => listed.getD j false) (0 + i) ts := by
          intro ts
          induction ts with
          | nil => trivial
          | cons p ts iht =>
            refine ⟨?_, iht⟩
            rcases hlj : listed.getD p.1 false with _ | _
            · exact .inr (show listed.getD p.1 false = false from hlj)
            · refine .inl ⟨?_, ?_⟩
              · rcases hel : (clOf Gs p.1).elem (0 + i) with _ | _
                · rfl
                · exfalso
                  rw [Nat.zero_add] at hel
                  have hmem := List.mem_of_elem_eq_true hel
                  unfold clOf at hmem
                  rcases hgj : Gs[p.1]? with _ | q
                  · rw [hgj] at hmem; cases hmem
                  · rw [hgj] at hmem
                    have := clin listed hcl p.1 q.1 q.2.1 q.2.2.1 q.2.2.2 hgj (fun o' ho' => hcl p.1 o' ho' (List.getElem?_eq_some_iff.1 hgj).1 hlj) i hmem
                    rw [h1] at this
                    cases this
              · rcases hbq : Nat.beq (0 + i) p.1 with _ | _
                · rfl
                · exfalso
                  have hq := Nat.eq_of_beq_eq_true hbq
                  rw [Nat.zero_add] at hq
                  rw [← hq, h1] at hlj
                  cases hlj
        exact aux Ts
      have hstep := stepsK_spec 0 l Gs hsv i o _ _ _ _ hol hg _ w hw hnb
      have hWL := depW_elim (e' := e') Gs 0 e hstep (fun j d ds cl G hj hel => loc j d ds cl G hj e' w (hG j d ds cl G hj (clin listed hcl i _ _ _ _ hg (fun o' ho' => by rw [hol] at ho'; injection ho' with ho'; subst ho'; exact hd) j (mem_dk hel).1) (fun k hkk => by
        rcases hlk : listed.getD k false with _ | _
        · rfl
        · exfalso
          have hkG := okKill_spec hkl j k hkk
          rcases (mem_dk hel).2 k hkk with h9 | h9
          · rw [← h9, h1] at hlk; cases hlk
          · have hgk := List.getElem?_eq_getElem hkG
            unfold clOf at h9
            rw [hgk] at h9
            have := clin listed hcl k _ _ _ _ hgk (fun o' ho' => hcl k o' ho' hkG hlk) i h9
            rw [h1] at this
            cases this))) (fun j d ds cl G hj hel => by
        rw [Nat.zero_add, Nat.zero_add] at hel
        have hcj := okWaits_spec hwt i j hel
        unfold clOf at hcj
        rw [hj] at hcj
        have hlj : listed.getD j false = false := by
          rcases h : listed.getD j false with _ | _
          · rfl
          · have := clin listed hcl j d ds cl G hj (fun o' ho' => hcl j o' ho' (List.getElem?_eq_some_iff.1 hj).1 h) i hcj
            rw [h1] at this
            cases this
        rw [fold_upd (Gs.take j) e d (fun p hp ht => by
          obtain ⟨m, hm⟩ := List.getElem?_of_mem hp
          have hmj : m < j := by
            have := (List.getElem?_eq_some_iff.1 hm).1
            rw [List.length_take] at this
            omega
          rw [List.getElem?_take_of_lt hmj] at hm
          have := hf2 m j p.1 p.2.1 ds p.2.2.1 cl p.2.2.2 G hm (by rw [ht]; exact hj)
          omega)]
        exact (hunl j _ hj hlj).symm)
      rw [fold_eq Gs e ho] at hWL
      refine wpOp_of_WL (by simpa using hol) ha hWL fun a' w' hM => ?_
      obtain ⟨v, hfit, hgv, hkp⟩ := hM
      rw [Nat.zero_add] at hkp
      refine ih (listed.setIfInBounds i true) a' _ w' hfit ((hcase i).1 _ _ _ _ hw (fun m hm => by
        rcases hlm : listed.getD m false with _ | _
        · rfl
        · have hm2 : (listed.setIfInBounds i true).getD m false = false := hm
          rw [getD_set_true hlm] at hm2; cases hm2) (by
        show (listed.setIfInBounds i true).getD i false = true
        simp [Array.getD, hs, hil]) hkp) (by simpa using hs) (fun j hj => ?_) (fun t ht => ?_) (fun j p hj hlj => ?_) (fun j d ds cl G hj hlj hlk => ?_) (fun j o' ho' hjk hlj x hx => ?_) ?_
      · rw [getD_set_ne false (by omega)]; exact hb j hj
      · rw [upd_eq, if_neg (fun h => ht Gs[i] (List.getElem_mem hik) h.symm)]; exact ho t ht
      · by_cases hji : j = i
        · subst hji
          rw [show (listed.setIfInBounds j true).getD j false = true by simp [Array.getD, hs, hil]] at hlj
          cases hlj
        · rw [getD_set_ne false (fun h => hji h.symm)] at hlj
          rw [upd_eq, if_neg (fun h => hji (hf2 j i p.1 p.2.1 Gs[i].2.1 p.2.2.1 Gs[i].2.2.1 p.2.2.2 Gs[i].2.2.2 hj (by rw [h]; exact hg)))]
          exact hunl j p hj hlj
      · by_cases hji : j = i
        · subst hji
          rw [hg] at hj
          injection hj with hj
          injection hj with hj1 hj2
          injection hj2 with hj2 hj3
          injection hj3 with hj3 hj4
          subst hj1; subst hj2; subst hj3; subst hj4
          rw [upd_eq, if_pos rfl]
          refine (stabV_spec Gs hst j _ _ _ _ hg).2 e' _ _ _ (fun x hx => ?_) hgv
          obtain ⟨⟨o2, ho2, -, hds, -⟩, -⟩ := hf1 j _ _ _ _ hg
          obtain ⟨i2, hi2', p, hp, rfl⟩ := hds x hx
          have hlt := cllt j _ _ _ _ hg i2 hi2'
          have hne : p.1 ≠ Gs[j].1 := fun h => by
            have := hf2 i2 j p.1 p.2.1 Gs[j].2.1 p.2.2.1 Gs[j].2.2.1 p.2.2.2 Gs[j].2.2.2 hp (by rw [h]; exact hg)
            omega
          rw [upd_eq, if_neg hne]
        · rw [getD_set_ne false (fun h => hji h.symm)] at hlj
          have hne : d ≠ Gs[i].1 := fun h => hji (hf2 j i d ds Gs[i].2.1 cl Gs[i].2.2.1 G Gs[i].2.2.2 hj (by rw [h]; exact hg))
          rw [upd_eq, if_neg hne]
          refine (stabV_spec Gs hst j d ds cl G hj).2 e' _ _ _ (fun x hx => ?_) ((hcase i).2 j d ds cl G hj hji (by
            rcases hq : (kl.getD j []).elem i with _ | _
            · rfl
            · have := hlk i hq
              rw [show (listed.setIfInBounds i true).getD i false = true by simp [Array.getD, hs, hil]] at this
              cases this) _ _ _ _ (hG j d ds cl G hj hlj (fun k hkk => by
            have h7 := hlk k hkk
            rcases hlm : listed.getD k false with _ | _
            · rfl
            · rw [getD_set_true hlm] at h7; cases h7)) hkp)
          obtain ⟨⟨o2, ho2, -, hds, -⟩, -⟩ := hf1 j d ds cl G hj
          obtain ⟨i2, hi2', p, hp, rfl⟩ := hds x hx
          have hli := clin listed hcl j d ds cl G hj (fun o' ho' => hcl j o' ho' (List.getElem?_eq_some_iff.1 hj).1 hlj) i2 hi2'
          have hne2 : p.1 ≠ Gs[i].1 := fun h => by
            have := hf2 i2 i p.1 p.2.1 Gs[i].2.1 p.2.2.1 Gs[i].2.2.1 p.2.2.2 Gs[i].2.2.2 hp (by rw [h]; exact hg)
            subst this
            rw [h1] at hli
            cases hli
          rw [upd_eq, if_neg hne2]
      · by_cases hji : j = i
        · subst hji
          rw [hol] at ho'
          injection ho' with ho'
          subst ho'
          exact getD_set_true (hd x hx)
        · rw [getD_set_ne false (fun h => hji h.symm)] at hlj
          exact getD_set_true (hcl j o' ho' hjk hlj x hx)
      · have hlt : ((List.range l.length).filter fun j => !(listed.setIfInBounds i true).getD j true).length < ((List.range l.length).filter fun j => !listed.getD j true).length := by
          have hsub : ∀ (N : Nat), N ≤ l.length → ((List.range N).filter fun j => !(listed.setIfInBounds i true).getD j true).length + (if i < N then 1 else 0) = ((List.range N).filter fun j => !listed.getD j true).length := by
            intro N
            induction N with
            | zero => intro _; simp
            | succ N ihN =>
              intro hN
              have := ihN (by omega)
              rw [List.range_succ, List.filter_append, List.filter_append, List.length_append, List.length_append]
              by_cases hiN : N = i
              · subst hiN
                have hx : (listed.setIfInBounds N true).getD N true = true := by simp [Array.getD, hs, hil]
                have hy : listed.getD N true = false := by rw [getD_both (by omega) true false]; exact h1
                simp only [List.filter_cons, List.filter_nil, hx, hy, Bool.not_true, Bool.not_false, if_true, Bool.false_eq_true, if_false, List.length_cons, List.length_nil]
                split at this <;> split <;> omega
              · have hx : (listed.setIfInBounds i true).getD N true = listed.getD N true := getD_set_ne true (fun h => hiN h.symm)
                simp only [List.filter_cons, List.filter_nil, hx]
                cases listed.getD N true <;> simp only [Bool.not_true, Bool.not_false, if_true, Bool.false_eq_true, if_false, List.length_cons, List.length_nil] <;> split at this <;> split <;> omega
          have := hsub l.length (Nat.le_refl _)
          rw [if_pos hil] at this
          omega
        omega

theorem wc_drawK {id : Nat} {l : List Oper} (Gs : GV) (wts kl : List (List Nat)) (alive : List Nat) (hwt : okWaits Gs wts = true) (hkl : okKill Gs kl alive = true) (R : LF → World → Prop) (Ts : TR) (hm : P.follows .mixedOrders = true) (hlen : Nat.ble Gs.length l.length = true) (he : okEdgesC Gs 0 l = true) (hf : okFrontT Gs [] l Gs = true) (hst : StabV Gs)
    (hR0 : ∀ lf w', Keep w w' → R lf w') (hK : ∀ lf lf' w w', R lf w → (∀ m, lf' m = false → lf m = false) → Keep w w' → R lf' w') (hRT : RStab R Ts) (hTs : StabTsK kl Gs Ts)
    (hsv : StepsK P l.toArray Q n R Ts e Gs wts kl 0 l Gs) (hk : ∀ lf w', R lf w' → DepW w' (fun e' => WL P l.toArray Q (l.drop Gs.length) n e' w') alive [] 0 Gs e) : WC P (.region id l.toArray true) Q n e w := by
  intro a ha
  refine wp_region_any hm ?_
  refine draw_frontK hwt hkl he hf hst hK hRT hTs hsv (by simpa using hlen) hk _ _ a e _ ha (hR0 _ _ (Ch.drew w)) (by simp) (fun i hi => ?_) (fun _ _ => rfl) (fun _ _ _ _ => rfl) (fun j d ds cl G hj hl _ => ?_) (fun j o ho hj hl => ?_) ?_
  · simp [Array.getD]
  · simp [Array.getD] at hl
  · simp [Array.getD] at hl
  · refine Nat.le_trans (List.length_filter_le _ _) ?_
    simp
end drawK
section part
variable {P : Program} {ops : Array Oper} {Q : Exit → Act → World → Prop} {n : Nat} {e : Env} {w : World} {o : Oper} {rest : List Oper} {α : Type} {L : LTy α} {lo lo2 hi m c : Nat} {a : Option Addr} {xs : List α}
theorem getD_fst {y : List (El α)} {i : Nat} (z : El α) (h : i < y.length) : (y.map Prod.fst).getD i z.1 = (y.getD i z).1 := by
  simp only [List.getD_eq_getElem?_getD, List.getElem?_map, List.getElem?_eq_getElem h, Option.map_some, Option.getD_some]
/-- a store into a part of an element that is no slice -/
theorem wl_setI (z0 : α) (i off : Nat) (el : α) (hw : Want n ops o e) (hown : OLv L w lo hi a m c xs) (hi0 : i < m) {u : Value} {us : List Value} (hbs : L.bs el = L.bs (xs.getD i z0)) (hb : ∀ l, (L.enc (xs.getD i z0, l)).take off ++ us ++ (L.enc (xs.getD i z0, l)).drop (off + us.length) = L.enc (el, l))
    (h1 : ∀ q ∈ us, q.oneCell' = true) (hoff : off + us.length ≤ L.sz) (hpos : 0 < us.length) {K j : Nat} {x y : Operand}
    (hS : ∀ w, (sizeOf K).run P w = .ok us.length w)
    (hk : ∀ w', Ch (fun k => (Value.slice a m c).ownBlock = some k) w w' → OLv L w' lo w'.heap.size a m c (xs.set i el) → WL P ops Q rest n e w')
    (hj : j = i * L.sz + off) (hd : o.dst = none := by exact rfl) (ho : o.op = .store K x y := by exact rfl) (hx : ev e x = .pointer (some (elA (.slice a m c) j)) := by exact rfl) (hy : ev e y = u := by exact rfl) (hu : u.cells = us.toArray := by exact rfl) : WL P ops Q (o :: rest) n e w := by
  obtain ⟨y0, hy0, hn0, hr0, hsub, hap, hhi, hl0⟩ := hown
  have hlen : y0.length = m := by rw [← hn0, ← hy0]; simp
  have hxi : xs.getD i z0 = (y0.getD i (z0, [])).1 := by rw [← hy0]; exact getD_fst (z0, []) (by omega)
  refine wl_storeF L.len y0 i off (z0, []) (el, (y0.getD i (z0, [])).2) u us hw hd ho hx hj hy hu h1 hS hr0 (by omega) hoff hpos (by
    have h := hb (y0.getD i (z0, [])).2
    rw [hxi] at h
    exact h) fun w' hc how => ?_
  have hmem : y0.getD i (z0, []) ∈ y0 := by
    simp only [List.getD_eq_getElem?_getD, List.getElem?_eq_getElem (show i < y0.length by omega), Option.getD_some]
    exact List.getElem_mem _
  refine hk w' hc (OLv.re (y0.set i (el, (y0.getD i (z0, [])).2)) (by rw [← hy0, List.map_set]) (by rw [List.length_set]; exact hn0) how (fun q hq => ?_) ?_ hl0)
  · rcases List.mem_or_eq_of_mem_set hq with hq | rfl
    · exact SubO.ch hc (hsub q hq) fun p b hp hb g hg hg2 => own_ne hr0 hb L.ne hg2 hg
    · have h2 := hsub _ hmem
      rw [← hxi, ← hbs] at h2
      exact SubO.ch hc h2 fun p b hp hb g hg hg2 => own_ne hr0 hb L.ne hg2 hg
  · have hin : Aps (y0.flatMap Prod.snd) := by
      rw [aps_iff] at hap ⊢
      exact (List.pairwise_cons.1 hap).2
    have hm : (y0.set i (el, (y0.getD i (z0, [])).2)).map Prod.snd = y0.map Prod.snd := by
      rw [List.map_set]
      refine List.ext_getElem? fun q => ?_
      rw [List.getElem?_set]
      split
      · rename_i hq
        subst hq
        simp only [List.length_map, List.getD_eq_getElem?_getD, List.getElem?_map, List.getElem?_eq_getElem (show i < y0.length by omega), Option.getD_some, Option.map_some, if_pos (show i < y0.length by omega)]
      · rfl
    have hf : ∀ l : List (El α), l.flatMap Prod.snd = (l.map Prod.snd).flatten := fun l => by rw [List.flatMap_def]
    rw [hf, hm, ← hf]
    exact hin
/-- a store of an element's only slice -/
theorem wl_setP (z0 : α) (i off : Nat) (el : α) (l : Ads) (hw : Want n ops o e) (hown : OLv L w lo hi a m c xs) (he : SubO w lo2 L.Eb 1073741824 l (L.bs el)) (hel : Aps l) (hlo : hi ≤ lo2) (hll : lo ≤ lo2) (hi0 : i < m) {u : Value} {us : List Value} (hb : ∀ l', (L.enc (xs.getD i z0, l')).take off ++ us ++ (L.enc (xs.getD i z0, l')).drop (off + us.length) = L.enc (el, l))
    (h1 : ∀ q ∈ us, q.oneCell' = true) (hoff : off + us.length ≤ L.sz) (hpos : 0 < us.length) {K j : Nat} {x y : Operand}
    (hS : ∀ w, (sizeOf K).run P w = .ok us.length w)
    (hk : ∀ w', Ch (fun k => (Value.slice a m c).ownBlock = some k) w w' → OLv L w' lo w'.heap.size a m c (xs.set i el) → WL P ops Q rest n e w')
    (hj : j = i * L.sz + off) (hd : o.dst = none := by exact rfl) (ho : o.op = .store K x y := by exact rfl) (hx : ev e x = .pointer (some (elA (.slice a m c) j)) := by exact rfl) (hy : ev e y = u := by exact rfl) (hu : u.cells = us.toArray := by exact rfl) : WL P ops Q (o :: rest) n e w := by
  obtain ⟨y0, hy0, hn0, hr0, hsub, hap, hhi, hl0⟩ := hown
  have hlen : y0.length = m := by rw [← hn0, ← hy0]; simp
  have hxi : xs.getD i z0 = (y0.getD i (z0, [])).1 := by rw [← hy0]; exact getD_fst (z0, []) (by omega)
  refine wl_storeF L.len y0 i off (z0, []) (el, l) u us hw hd ho hx hj hy hu h1 hS hr0 (by omega) hoff hpos (by
    have h := hb (y0.getD i (z0, [])).2
    rw [hxi] at h
    exact h) fun w' hc how => ?_
  refine hk w' hc (OLv.re (y0.set i (el, l)) (by rw [← hy0, List.map_set]) (by rw [List.length_set]; exact hn0) how (fun q hq => ?_) ?_ hl0)
  · rcases List.mem_or_eq_of_mem_set hq with hq | rfl
    · exact SubO.ch hc (hsub q hq) fun p b hp hb g hg hg2 => own_ne hr0 hb L.ne hg2 hg
    · exact SubO.ch hc (SubO.low hll he) fun p b hp hb g hg hg2 => own_ne hr0 hb L.ne hg2 hg
  · have hin : Aps (y0.flatMap Prod.snd) := by
      rw [aps_iff] at hap ⊢
      exact (List.pairwise_cons.1 hap).2
    have hsp : y0 = y0.take i ++ y0[i] :: y0.drop (i + 1) := by rw [← List.drop_eq_getElem_cons, List.take_append_drop]
    rw [List.set_eq_take_append_cons_drop, if_pos (by omega), List.flatMap_append, List.flatMap_cons]
    have hf : ∀ p, p ∈ (y0.take i).flatMap Prod.snd ∨ p ∈ (y0.drop (i + 1)).flatMap Prod.snd → p ∈ y0.flatMap Prod.snd := by
      rintro p (h | h) <;> obtain ⟨e, he, hp⟩ := List.mem_flatMap.1 h
      · exact List.mem_flatMap.2 ⟨e, List.mem_of_mem_take he, hp⟩
      · exact List.mem_flatMap.2 ⟨e, List.mem_of_mem_drop he, hp⟩
    have hfar : ∀ p, p ∈ y0.flatMap Prod.snd → ∀ q ∈ l, Ap p q := fun p hp q hq => ap_far (hi := hi) (fun z hz => hhi p (List.mem_cons_of_mem _ hp) z hz) fun z hz => Nat.le_trans hlo (he.lt q hq z hz).1
    rw [hsp, List.flatMap_append, List.flatMap_cons, aps_iff, List.pairwise_append, List.pairwise_append] at hin
    rw [aps_iff, List.pairwise_append, List.pairwise_append]
    rw [aps_iff] at hel
    refine ⟨hin.1, ⟨hel, hin.2.1.2.1, fun p hp q hq => (hfar q (hf q (.inr hq)) p hp).symm⟩, fun p hp q hq => ?_⟩
    rcases List.mem_append.1 hq with hq | hq
    · exact hfar p (hf p (.inl hp)) q hq
    · exact hin.2.2 p hp q (List.mem_append_right _ hq)
end part
end Go.Proofs.Ytdbjmgkiccfhcaa.K
