/- Regions that draw their order: an operation that waits for another one has not been done when that one is. It names no program. -/
import Derived.Test.YtacoceibbheccaaDraw
namespace Go.Proofs.Ytacoceibbheccaa.K
open Go.RowKit Go.ChangeShapes Go.WideShapes
set_option linter.unusedVariables false
section drawW
variable {P : Program} {Q : Exit → Act → World → Prop} {n : Nat} {e : Env} {w : World}
def DepW (w : World) (K : Env → Prop) (deps wt : List Nat) : Nat → GV → Env → Prop
  | _, [], e => K e
  | i, (d, _, _, G) :: r, e => match deps.elem i with
    | true => ∀ v, G e v w → DepW w K deps wt (i + 1) r (upd e d v)
    | false => match wt.elem i with
      | true => DepW w K deps wt (i + 1) r (upd e d (e d))
      | false => ∀ v, DepW w K deps wt (i + 1) r (upd e d v)
theorem depW_elim {K : Env → Prop} {deps wt : List Nat} {e' : Env} : ∀ (gs : GV) (i : Nat) (e : Env), DepW w K deps wt i gs e →
    (∀ j d ds cl G, gs[j]? = some (d, ds, cl, G) → deps.elem (i + j) = true → G ((gs.take j).foldl (fun e p => upd e p.1 (e' p.1)) e) (e' d) w) →
    (∀ j d ds cl G, gs[j]? = some (d, ds, cl, G) → wt.elem (i + j) = true → ((gs.take j).foldl (fun e p => upd e p.1 (e' p.1)) e) d = e' d) →
    K (gs.foldl (fun e p => upd e p.1 (e' p.1)) e)
  | [], _, _, h, _, _ => h
  | (d, ds, cl, G) :: r, i, e, h, hd, hw => by
    have hr : ∀ j d' ds' cl' G', r[j]? = some (d', ds', cl', G') → deps.elem (i + 1 + j) = true → G' ((r.take j).foldl (fun e p => upd e p.1 (e' p.1)) (upd e d (e' d))) (e' d') w :=
      fun j d' ds' cl' G' hj he => hd (j + 1) d' ds' cl' G' (by simpa using hj) (by rwa [show i + (j + 1) = i + 1 + j by omega])
    have hr2 : ∀ j d' ds' cl' G', r[j]? = some (d', ds', cl', G') → wt.elem (i + 1 + j) = true → ((r.take j).foldl (fun e p => upd e p.1 (e' p.1)) (upd e d (e' d))) d' = e' d' :=
      fun j d' ds' cl' G' hj he => hw (j + 1) d' ds' cl' G' (by simpa using hj) (by rwa [show i + (j + 1) = i + 1 + j by omega])
    unfold DepW at h
    split at h
    · rename_i hel
      exact depW_elim r (i + 1) _ (h (e' d) (hd 0 d ds cl G rfl (by simpa using hel))) hr hr2
    · split at h
      · rename_i hel
        have h2 : e d = e' d := hw 0 d ds cl G rfl (by simpa using hel)
        rw [h2] at h
        exact depW_elim r (i + 1) _ h hr hr2
      · exact depW_elim r (i + 1) _ (h (e' d)) hr hr2
def okWaits (Gs : GV) (wts : List (List Nat)) : Bool := (List.range wts.length).all fun i => (wts.getD i []).all fun j => (clOf Gs j).elem i
theorem okWaits_spec {Gs : GV} {wts : List (List Nat)} (h : okWaits Gs wts = true) (i j : Nat) (hj : (wts.getD i []).elem j = true) : i ∈ clOf Gs j := by
  by_cases hi : i < wts.length
  · have h1 := List.all_eq_true.1 h i (List.mem_range.2 hi)
    have h2 := List.all_eq_true.1 h1 j (List.mem_of_elem_eq_true hj)
    exact List.mem_of_elem_eq_true h2
  · rw [List.getD_eq_getElem?_getD, List.getElem?_eq_none (by omega)] at hj
    simp at hj
def StepsW (P : Program) (ops : Array Oper) (Q : Exit → Act → World → Prop) (n : Nat) (R : LF → World → Prop) (Ts : TR) (e : Env) (Gs : GV) (wts : List (List Nat)) : Nat → List Oper → GV → Prop
  | i, o :: r, (d, _, cl, G) :: gs => (∀ lf w, R lf w → NBp Gs lf i Ts → DepW w (fun e' => WL P ops (QT Q n d G (tsOf Ts i) w e') [o] n e' w) cl (wts.getD i []) 0 Gs e) ∧ StepsW P ops Q n R Ts e Gs wts (i + 1) r gs
  | _, _, _ => True
theorem stepsW_spec {ops : Array Oper} {R : LF → World → Prop} {Ts : TR} {Gs : GV} {wts : List (List Nat)} : ∀ (i0 : Nat) (l : List Oper) (gs : GV), StepsW P ops Q n R Ts e Gs wts i0 l gs → ∀ (j : Nat) (o : Oper) (d : Nat) (ds cl : List Nat) (G : Env → Value → World → Prop), l[j]? = some o → gs[j]? = some (d, ds, cl, G) →
    ∀ lf w, R lf w → NBp Gs lf (i0 + j) Ts → DepW w (fun e' => WL P ops (QT Q n d G (tsOf Ts (i0 + j)) w e') [o] n e' w) cl (wts.getD (i0 + j) []) 0 Gs e
  | i0, o0 :: r, (d0, ds0, cl0, G0) :: gs, hs, j, o, d, ds, cl, G, ho, hg => by
    cases j with
    | zero => simp at ho hg; obtain ⟨rfl, rfl, rfl, rfl⟩ := hg; subst ho; exact hs.1
    | succ j =>
      have := stepsW_spec (i0 + 1) r gs hs.2 j o d ds cl G (by simpa using ho) (by simpa using hg)
      rwa [show i0 + 1 + j = i0 + (j + 1) by omega] at this
  | _, [], _, _, j, o, d, ds, cl, G, ho, _ => by simp at ho
  | _, _ :: _, [], _, j, o, d, ds, cl, G, _, hg => by simp at hg
theorem draw_frontW {l : List Oper} {Gs : GV} {R : LF → World → Prop} {Ts : TR} {wts : List (List Nat)} (hwt : okWaits Gs wts = true) (he : okEdgesC Gs 0 l = true) (hf : okFrontT Gs [] l Gs = true) (hst : StabV Gs) (hK : ∀ lf lf' w w', R lf w → (∀ m, lf' m = false → lf m = false) → Keep w w' → R lf' w') (hRT : RStab R Ts) (hTs : StabTs Gs Ts) (hsv : StepsW P l.toArray Q n R Ts e Gs wts 0 l Gs) (hlen : Gs.length ≤ l.length)
    (hk : ∀ lf w, R lf w → AllV w (fun e' => WL P l.toArray Q (l.drop Gs.length) n e' w) Gs e) :
    ∀ (fuel : Nat) (listed : Array Bool) (a : Act) (e' : Env) (w : World), Fits n e' a → R (fun j => listed.getD j false) w → listed.size = l.length →
      (∀ i, Gs.length ≤ i → listed.getD i false = false) → (∀ t, (∀ p ∈ Gs, p.1 ≠ t) → e' t = e t) → (∀ (j : Nat) (p : Nat × List Nat × List Nat × (Env → Value → World → Prop)), Gs[j]? = some p → listed.getD j false = false → e' p.1 = e p.1) → (∀ j d ds cl G, Gs[j]? = some (d, ds, cl, G) → listed.getD j false = true → G e' (e' d) w) →
      (∀ j o, l[j]? = some o → j < Gs.length → listed.getD j false = true → ∀ x ∈ depsOf o, listed.getD x false = true) →
      ((List.range l.length).filter fun i => !listed.getD i true).length ≤ fuel → wpAny P .any l.toArray Q fuel listed a w := by
  obtain ⟨hf1, hf2⟩ := okFrontT_spec (Gs := Gs) Gs [] l hf
  have hcase := tsOf_cases hK hst Ts hRT hTs
  intro fuel
  have cllt : ∀ (j d : Nat) (ds cl : List Nat) (G : Env → Value → World → Prop), Gs[j]? = some (d, ds, cl, G) → ∀ x ∈ cl, x < j := by
    intro j
    induction j using Nat.strongRecOn with
    | _ j ih =>
      intro d ds cl G hj x hx
      obtain ⟨⟨o, ho, -, -, hcl⟩, -⟩ := hf1 j d ds cl G hj
      rcases hcl x hx with h | ⟨i, hi, p, hp, hxp⟩
      · have := (okEdgesC_spec l 0 he j o ho).1 x h; omega
      · have h1 := (okEdgesC_spec l 0 he j o ho).1 i hi
        have := ih i (by omega) p.1 p.2.1 p.2.2.1 p.2.2.2 hp x hxp
        omega
  have clin : ∀ (listed : Array Bool), (∀ j o, l[j]? = some o → j < Gs.length → listed.getD j false = true → ∀ x ∈ depsOf o, listed.getD x false = true) →
      ∀ (j d : Nat) (ds cl : List Nat) (G : Env → Value → World → Prop), Gs[j]? = some (d, ds, cl, G) → (∀ o, l[j]? = some o → ∀ x ∈ depsOf o, listed.getD x false = true) → ∀ x ∈ cl, listed.getD x false = true := by
    intro listed hcl0 j
    induction j using Nat.strongRecOn with
    | _ j ih =>
      intro d ds cl G hj hd x hx
      obtain ⟨⟨o, ho, -, -, hcl⟩, -⟩ := hf1 j d ds cl G hj
      rcases hcl x hx with h | ⟨i, hi, p, hp, hxp⟩
      · exact hd o ho x h
      · have h1 := (okEdgesC_spec l 0 he j o ho).1 i hi
        exact ih i (by omega) p.1 p.2.1 p.2.2.1 p.2.2.2 hp (fun o' ho' => hcl0 i o' ho' (List.getElem?_eq_some_iff.1 hp).1 (hd o ho i hi)) x hxp
  -- a fact may be said of the chain of updates in place of the environment
  have loc : ∀ (j d : Nat) (ds cl : List Nat) (G : Env → Value → World → Prop), Gs[j]? = some (d, ds, cl, G) → ∀ (e' : Env) (w : World), G e' (e' d) w → G ((Gs.take j).foldl (fun e p => upd e p.1 (e' p.1)) e) (e' d) w := by
    intro j d ds cl G hj e' w hG
    refine (stabV_spec Gs hst j d ds cl G hj).2 e' _ _ _ (fun x hx => ?_) hG
    obtain ⟨⟨o, ho, -, hds, -⟩, -⟩ := hf1 j d ds cl G hj
    obtain ⟨i, hi, p, hp, rfl⟩ := hds x hx
    exact (fold_take Gs e j i p hp (cllt j d ds cl G hj i hi)).symm
  -- all of the front is done
  have done : ∀ (fuel : Nat) (listed : Array Bool) (a : Act) (e' : Env) (w : World), Fits n e' a → R (fun j => listed.getD j false) w → listed.size = l.length → (∀ i, Gs.length ≤ i → listed.getD i false = false) →
      (∀ t, (∀ p ∈ Gs, p.1 ≠ t) → e' t = e t) → (∀ j d ds cl G, Gs[j]? = some (d, ds, cl, G) → listed.getD j false = true → G e' (e' d) w) → (∀ i, i < Gs.length → listed.getD i false = true) →
      ((List.range l.length).filter fun i => !listed.getD i true).length ≤ fuel → wpAny P .any l.toArray Q fuel listed a w := by
    intro fuel listed a e' w ha hw hs hb ho hG hall hc
    have hK := allV_elim (e' := e') Gs e (hk _ w hw) fun j d ds cl G hj => loc j d ds cl G hj e' w (hG j d ds cl G hj (hall j (List.getElem?_eq_some_iff.1 hj).1))
    rw [fold_eq Gs e ho] at hK
    have hl : ∀ i, i < l.length → listed.getD i false = decide (i < Gs.length) := fun i hi => by
      by_cases h : i < Gs.length
      · simp [h, hall i h]
      · simp [h, hb i (by omega)]
    refine draw_tailC rfl he (fun d hd x hx => by
      have hg := List.getElem?_eq_getElem hd
      unfold clOf at hx
      rw [hg] at hx
      exact cllt d _ _ _ _ hg x hx) fuel Gs.length listed a w (Nat.le_refl _) hlen ?_ hs hl (hK a ha)
    have hcount : ∀ (N : Nat), N ≤ l.length → N - Gs.length ≤ ((List.range N).filter fun i => !listed.getD i true).length := by
      intro N
      induction N with
      | zero => intro _; omega
      | succ N ih =>
        intro hN
        rw [List.range_succ, List.filter_append, List.length_append]
        have := ih (by omega)
        by_cases hNk : Gs.length ≤ N
        · have hf : listed.getD N true = false := by rw [getD_both (by omega) true false]; exact hb N hNk
          simp only [List.filter_cons, List.filter_nil, hf, Bool.not_false, if_true, List.length_cons, List.length_nil]
          omega
        · omega
    have := hcount l.length (Nat.le_refl _)
    omega
  induction fuel with
  | zero =>
    intro listed a e' w ha hw hs hb ho hunl hG hcl hc
    refine done 0 listed a e' w ha hw hs hb ho hG (fun i hi => ?_) hc
    have hnil : ((List.range l.length).filter fun i => !listed.getD i true) = [] := List.eq_nil_of_length_eq_zero (by omega)
    have hni : i ∉ ((List.range l.length).filter fun i => !listed.getD i true) := by rw [hnil]; simp
    rw [List.mem_filter, List.mem_range] at hni
    have hil : i < l.length := by omega
    rw [getD_both (by omega) false true]
    cases h : listed.getD i true
    · exact absurd ⟨hil, by simp [h]⟩ hni
    · rfl
  | succ fuel ih =>
    intro listed a e' w ha hw hs hb ho hunl hG hcl hc
    by_cases hall : ∀ i, i < Gs.length → listed.getD i false = true
    · exact done (fuel + 1) listed a e' w ha hw hs hb ho hG hall hc
    · -- the least one that is not listed is ready
      have hex : ∃ i, i < Gs.length ∧ listed.getD i false = false ∧ ∀ j, j < i → listed.getD j false = true := by
        have : ∃ i, i < Gs.length ∧ listed.getD i false = false := by
          refine Classical.byContradiction fun hn => hall fun i hi => ?_
          cases h : listed.getD i false
          · exact absurd ⟨i, hi, h⟩ hn
          · rfl
        obtain ⟨i, hi⟩ := this
        induction i using Nat.strongRecOn with
        | _ i ihh =>
          by_cases hj : ∃ j, j < i ∧ listed.getD j false = false
          · obtain ⟨j, hj1, hj2⟩ := hj
            exact ihh j hj1 ⟨by omega, hj2⟩
          · refine ⟨i, hi.1, hi.2, fun j hji => ?_⟩
            cases h : listed.getD j false
            · exact absurd ⟨j, hji, h⟩ hj
            · rfl
      obtain ⟨i0, hi0, hi1, hi2⟩ := hex
      have hmem : i0 ∈ Region.ready .any l.toArray listed := by
        refine ready_iff.2 ⟨by rw [getD_both (by omega) true false]; exact hi1, l[i0], List.getElem?_eq_getElem (by omega), fun j hj => hi2 j ?_⟩
        have := (okEdgesC_spec l 0 he i0 _ (List.getElem?_eq_getElem (by omega))).1 j hj
        omega
      refine ⟨(fun hn => by rw [hn] at hmem; cases hmem), fun i hi => ?_⟩
      obtain ⟨h1, o, hol, hd⟩ := ready_iff.1 hi
      have hil : i < l.length := (List.getElem?_eq_some_iff.1 hol).1
      rw [getD_both (by omega) true false] at h1
      have hik : i < Gs.length := by
        refine Classical.byContradiction fun hn => ?_
        rcases (okEdgesC_spec l 0 he i o hol).2 (by omega) i0 (by omega) with h9 | ⟨d, hd9, h9⟩
        · have := hd i0 h9
          rw [hi1] at this
          cases this
        · have h10 := hd d hd9
          rcases h9 with h9 | ⟨h9, h11⟩
          · rw [hb d h9.1] at h10; cases h10
          · have hg9 := List.getElem?_eq_getElem h9
            unfold clOf at h11
            rw [hg9] at h11
            have := clin listed hcl d _ _ _ _ hg9 (fun o' ho' => hcl d o' ho' h9 h10) i0 h11
            rw [hi1] at this
            cases this
      have hg : Gs[i]? = some (Gs[i].1, Gs[i].2.1, Gs[i].2.2.1, Gs[i].2.2.2) := List.getElem?_eq_getElem hik
      have hnb : NBp Gs (fun j => listed.getD j false) (0 + i) Ts := by
        have aux : ∀ (ts : TR), NBp Gs (fun j => listed.getD j false) (0 + i) ts := by
          intro ts
          induction ts with
          | nil => trivial
          | cons p ts iht =>
            refine ⟨?_, iht⟩
            rcases hlj : listed.getD p.1 false with _ | _
            · exact .inr (show listed.getD p.1 false = false from hlj)
            · refine .inl ⟨?_, ?_⟩
              · rcases hel : (clOf Gs p.1).elem (0 + i) with _ | _
                · rfl
                · exfalso
                  rw [Nat.zero_add] at hel
                  have hmem := List.mem_of_elem_eq_true hel
                  unfold clOf at hmem
                  rcases hgj : Gs[p.1]? with _ | q
                  · rw [hgj] at hmem; cases hmem
                  · rw [hgj] at hmem
                    have := clin listed hcl p.1 q.1 q.2.1 q.2.2.1 q.2.2.2 hgj (fun o' ho' => hcl p.1 o' ho' (List.getElem?_eq_some_iff.1 hgj).1 hlj) i hmem
                    rw [h1] at this
                    cases this
              · rcases hbq : Nat.beq (0 + i) p.1 with _ | _
                · rfl
                · exfalso
                  have hq := Nat.eq_of_beq_eq_true hbq
                  rw [Nat.zero_add] at hq
                  rw [← hq, h1] at hlj
                  cases hlj
        exact aux Ts
      have hstep := stepsW_spec 0 l Gs hsv i o _ _ _ _ hol hg _ w hw hnb
      have hWL := depW_elim (e' := e') Gs 0 e hstep (fun j d ds cl G hj hel => loc j d ds cl G hj e' w (hG j d ds cl G hj (clin listed hcl i _ _ _ _ hg (fun o' ho' => by rw [hol] at ho'; injection ho' with ho'; subst ho'; exact hd) j (List.mem_of_elem_eq_true (by simpa using hel))))) (fun j d ds cl G hj hel => by
        rw [Nat.zero_add, Nat.zero_add] at hel
        have hcj := okWaits_spec hwt i j hel
        unfold clOf at hcj
        rw [hj] at hcj
        have hlj : listed.getD j false = false := by
          rcases h : listed.getD j false with _ | _
          · rfl
          · have := clin listed hcl j d ds cl G hj (fun o' ho' => hcl j o' ho' (List.getElem?_eq_some_iff.1 hj).1 h) i hcj
            rw [h1] at this
            cases this
        rw [fold_upd (Gs.take j) e d (fun p hp ht => by
          obtain ⟨m, hm⟩ := List.getElem?_of_mem hp
          have hmj : m < j := by
            have := (List.getElem?_eq_some_iff.1 hm).1
            rw [List.length_take] at this
            omega
          rw [List.getElem?_take_of_lt hmj] at hm
          have := hf2 m j p.1 p.2.1 ds p.2.2.1 cl p.2.2.2 G hm (by rw [ht]; exact hj)
          omega)]
        exact (hunl j _ hj hlj).symm)
      rw [fold_eq Gs e ho] at hWL
      refine wpOp_of_WL (by simpa using hol) ha hWL fun a' w' hM => ?_
      obtain ⟨v, hfit, hgv, hkp⟩ := hM
      rw [Nat.zero_add] at hkp
      refine ih (listed.setIfInBounds i true) a' _ w' hfit ((hcase i).1 _ _ _ _ hw (fun m hm => by
        rcases hlm : listed.getD m false with _ | _
        · rfl
        · have hm2 : (listed.setIfInBounds i true).getD m false = false := hm
          rw [getD_set_true hlm] at hm2; cases hm2) (by
        show (listed.setIfInBounds i true).getD i false = true
        simp [Array.getD, hs, hil]) hkp) (by simpa using hs) (fun j hj => ?_) (fun t ht => ?_) (fun j p hj hlj => ?_) (fun j d ds cl G hj hlj => ?_) (fun j o' ho' hjk hlj x hx => ?_) ?_
      · rw [getD_set_ne false (by omega)]; exact hb j hj
      · rw [upd_eq, if_neg (fun h => ht Gs[i] (List.getElem_mem hik) h.symm)]; exact ho t ht
      · by_cases hji : j = i
        · subst hji
          rw [show (listed.setIfInBounds j true).getD j false = true by simp [Array.getD, hs, hil]] at hlj
          cases hlj
        · rw [getD_set_ne false (fun h => hji h.symm)] at hlj
          rw [upd_eq, if_neg (fun h => hji (hf2 j i p.1 p.2.1 Gs[i].2.1 p.2.2.1 Gs[i].2.2.1 p.2.2.2 Gs[i].2.2.2 hj (by rw [h]; exact hg)))]
          exact hunl j p hj hlj
      · by_cases hji : j = i
        · subst hji
          rw [hg] at hj
          injection hj with hj
          injection hj with hj1 hj2
          injection hj2 with hj2 hj3
          injection hj3 with hj3 hj4
          subst hj1; subst hj2; subst hj3; subst hj4
          rw [upd_eq, if_pos rfl]
          refine (stabV_spec Gs hst j _ _ _ _ hg).2 e' _ _ _ (fun x hx => ?_) hgv
          obtain ⟨⟨o2, ho2, -, hds, -⟩, -⟩ := hf1 j _ _ _ _ hg
          obtain ⟨i2, hi2', p, hp, rfl⟩ := hds x hx
          have hlt := cllt j _ _ _ _ hg i2 hi2'
          have hne : p.1 ≠ Gs[j].1 := fun h => by
            have := hf2 i2 j p.1 p.2.1 Gs[j].2.1 p.2.2.1 Gs[j].2.2.1 p.2.2.2 Gs[j].2.2.2 hp (by rw [h]; exact hg)
            omega
          rw [upd_eq, if_neg hne]
        · rw [getD_set_ne false (fun h => hji h.symm)] at hlj
          have hne : d ≠ Gs[i].1 := fun h => hji (hf2 j i d ds Gs[i].2.1 cl Gs[i].2.2.1 G Gs[i].2.2.2 hj (by rw [h]; exact hg))
          rw [upd_eq, if_neg hne]
          refine (stabV_spec Gs hst j d ds cl G hj).2 e' _ _ _ (fun x hx => ?_) ((hcase i).2 j d ds cl G hj hji _ _ _ _ (hG j d ds cl G hj hlj) hkp)
          obtain ⟨⟨o2, ho2, -, hds, -⟩, -⟩ := hf1 j d ds cl G hj
          obtain ⟨i2, hi2', p, hp, rfl⟩ := hds x hx
          have hli := clin listed hcl j d ds cl G hj (fun o' ho' => hcl j o' ho' (List.getElem?_eq_some_iff.1 hj).1 hlj) i2 hi2'
          have hne2 : p.1 ≠ Gs[i].1 := fun h => by
            have := hf2 i2 i p.1 p.2.1 Gs[i].2.1 p.2.2.1 Gs[i].2.2.1 p.2.2.2 Gs[i].2.2.2 hp (by rw [h]; exact hg)
            subst this
            rw [h1] at hli
            cases hli
          rw [upd_eq, if_neg hne2]
      · by_cases hji : j = i
        · subst hji
          rw [hol] at ho'
          injection ho' with ho'
          subst ho'
          exact getD_set_true (hd x hx)
        · rw [getD_set_ne false (fun h => hji h.symm)] at hlj
          exact getD_set_true (hcl j o' ho' hjk hlj x hx)
      · have hlt : ((List.range l.length).filter fun j => !(listed.setIfInBounds i true).getD j true).length < ((List.range l.length).filter fun j => !listed.getD j true).length := by
          have hsub : ∀ (N : Nat), N ≤ l.length → ((List.range N).filter fun j => !(listed.setIfInBounds i true).getD j true).length + (if i < N then 1 else 0) = ((List.range N).filter fun j => !listed.getD j true).length := by
            intro N
            induction N with
            | zero => intro _; simp
            | succ N ihN =>
              intro hN
              have := ihN (by omega)
              rw [List.range_succ, List.filter_append, List.filter_append, List.length_append, List.length_append]
              by_cases hiN : N = i
              · subst hiN
                have hx : (listed.setIfInBounds N true).getD N true = true := by simp [Array.getD, hs, hil]
                have hy : listed.getD N true = false := by rw [getD_both (by omega) true false]; exact h1
                simp only [List.filter_cons, List.filter_nil, hx, hy, Bool.not_true, Bool.not_false, if_true, Bool.false_eq_true, if_false, List.length_cons, List.length_nil]
                split at this <;> split <;> omega
              · have hx : (listed.setIfInBounds i true).getD N true = listed.getD N true := getD_set_ne true (fun h => hiN h.symm)
                simp only [List.filter_cons, List.filter_nil, hx]
                cases listed.getD N true <;> simp only [Bool.not_true, Bool.not_false, if_true, Bool.false_eq_true, if_false, List.length_cons, List.length_nil] <;> split at this <;> split <;> omega
          have := hsub l.length (Nat.le_refl _)
          rw [if_pos hil] at this
          omega
        omega

theorem wc_drawW {id : Nat} {l : List Oper} (Gs : GV) (wts : List (List Nat)) (hwt : okWaits Gs wts = true) (R : LF → World → Prop) (Ts : TR) (hm : P.follows .mixedOrders = true) (hlen : Nat.ble Gs.length l.length = true) (he : okEdgesC Gs 0 l = true) (hf : okFrontT Gs [] l Gs = true) (hst : StabV Gs)
    (hR0 : ∀ lf w', Keep w w' → R lf w') (hK : ∀ lf lf' w w', R lf w → (∀ m, lf' m = false → lf m = false) → Keep w w' → R lf' w') (hRT : RStab R Ts) (hTs : StabTs Gs Ts)
    (hsv : StepsW P l.toArray Q n R Ts e Gs wts 0 l Gs) (hk : ∀ lf w', R lf w' → AllV w' (fun e' => WL P l.toArray Q (l.drop Gs.length) n e' w') Gs e) : WC P (.region id l.toArray true) Q n e w := by
  intro a ha
  refine wp_region_any hm ?_
  refine draw_frontW hwt he hf hst hK hRT hTs hsv (by simpa using hlen) hk _ _ a e _ ha (hR0 _ _ (Ch.drew w)) (by simp) (fun i hi => ?_) (fun _ _ => rfl) (fun _ _ _ _ => rfl) (fun j d ds cl G hj hl => ?_) (fun j o ho hj hl => ?_) ?_
  · simp [Array.getD]
  · simp [Array.getD] at hl
  · simp [Array.getD] at hl
  · refine Nat.le_trans (List.length_filter_le _ _) ?_
    simp
end drawW
end Go.Proofs.Ytacoceibbheccaa.K
