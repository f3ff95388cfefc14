/- Marking the memory of a slice whose elements hold slices of bytes. It names no program. -/
import Derived.Test.YtacoceibbheccaaDraw
namespace Go.Proofs.Ytacoceibbheccaa.K
open Go.RowKit Go.ChangeShapes Go.WideShapes
set_option linter.unusedVariables false
/-- a slice of bytes that may be written in place -/
def W1 (w : World) (E : TypeId) (p : Option Addr × Nat) (b : List UInt8) : Prop := Wp w E p.1 b.length p.2 (b.map bV) ∧ Rd w 1 (.slice p.1 b.length p.2) b.length (b.map bV) ∧ b.length ≤ 1073741824
def SubW (w : World) (E : TypeId) : Ads → List (List UInt8) → Prop
  | [], [] => True
  | p :: l, b :: bs => W1 w E p b ∧ SubW w E l bs
  | _, _ => False
section w1
variable {w w' : World} {E Eb : TypeId} {lo sz n m : Nat} {v : Value} {xs : List Value} {p q : Option Addr × Nat} {b : List UInt8}
theorem rd0 {sz c : Nat} {a : Option Addr} (hc : 0 ≤ c) (hm : c ≤ maxLen) (w : World) : Rd w sz (.slice a 0 c) 0 [] := ⟨a, c, rfl, hc, hm, by simp, fun h => absurd h (by omega)⟩
theorem W1.row (h : W1 w Eb p b) (hr : w.ownsRow lo E sz v n xs) (hne : E ≠ Eb) (hc : Ch (fun k => v.ownBlock = some k) w w') : W1 w' Eb p b := by
  obtain ⟨h1, h2, h3⟩ := h
  have hs : 0 < b.length → ∀ x, p.1 = some x → x.block < w.heap.size → ¬ v.ownBlock = some x.block := fun hn x hx _ hv => by
    rcases h1 with h1 | ⟨lo', h1⟩
    · omega
    · exact own_ne hr h1 hne hv (by rw [hx]; rfl)
  refine ⟨h1.ch hc hs, ?_, h3⟩
  rcases Nat.eq_zero_or_pos b.length with h0 | h0
  · have : b = [] := List.eq_nil_of_length_eq_zero h0
    subst this
    obtain ⟨A, c, hv, q1, q2, _⟩ := h2
    injection hv with _ _ hv
    exact rd0 (Nat.zero_le _) (by rw [hv]; exact q2) w'
  · refine h2.ch hc fun g hg hlt => ?_
    rcases hp : p.1 with _ | z
    · rw [hp] at hg; cases hg
    · rw [hp] at hg
      have : z.block = g := by simpa [Value.ownBlock] using hg
      subst this
      exact hs h0 z hp hlt
theorem W1.ms (h : W1 w Eb p b) (hap : Ap q p) (hm : m ≤ q.2) (hc : Ch (MS [(q.1, m)]) w w') : W1 w' Eb p b := by
  obtain ⟨h1, h2, h3⟩ := h
  have hl : [(q.1, m)] = ([(q.1, m, q.2)] : List (Option Addr × Nat × Nat)).map fun p => (p.1, p.2.1) := rfl
  have ha : ∀ r ∈ [(q.1, m, q.2)], r.2.1 ≤ r.2.2 ∧ Ap (r.1, r.2.2) (p.1, p.2) := fun r hr => by
    obtain rfl : r = (q.1, m, q.2) := by simpa using hr
    exact ⟨hm, hap⟩
  exact ⟨h1.ms (rd_cap h2) hl hc ha, h2.ms hl hc ha, h3⟩
theorem row_ms {a : Option Addr} {c : Nat} {b : List UInt8} (hr : w.ownsRow lo E sz v n xs) (h : W1 w Eb (a, c) b) (hne : E ≠ Eb) (hc : Ch (MS [(a, b.length)]) w w') : w'.ownsRow lo E sz v n xs := by
  refine own_ch hr hc fun g hg _ hk => ?_
  rcases hk with ⟨hn, z, hz, hzb⟩ | hk
  · subst hzb
    have hn' : 0 < b.length := hn
    have hz' : a = some z := hz
    rcases h.1 with h1 | ⟨lo', h1⟩
    · omega
    · exact own_ne hr h1 hne hg (by rw [show (a, c).1 = some z from hz']; rfl)
  · exact hk
theorem SubO.wr {M : Nat} (hM : M ≤ 1073741824) : ∀ {l : Ads} {bs : List (List UInt8)}, SubO w lo E M l bs → SubW w E l bs
  | [], [], _ => trivial
  | p :: l, b :: bs, h => ⟨⟨Wp.of h.1.1, Rd.of_own h.1.1, Nat.le_trans h.1.2 hM⟩, SubO.wr hM h.2⟩
  | [], _ :: _, h => h.elim
  | _ :: _, [], h => h.elim
theorem SubW.rd : ∀ {l : Ads} {bs : List (List UInt8)}, SubW w E l bs → SubR w 1073741824 l bs
  | [], [], _ => trivial
  | p :: l, b :: bs, h => ⟨⟨h.1.2.1, h.1.2.2⟩, SubW.rd h.2⟩
  | [], _ :: _, h => h.elim
  | _ :: _, [], h => h.elim
theorem SubW.row (hr : w.ownsRow lo E sz v n xs) (hne : E ≠ Eb) (hc : Ch (fun k => v.ownBlock = some k) w w') : ∀ {l : Ads} {bs : List (List UInt8)}, SubW w Eb l bs → SubW w' Eb l bs
  | [], [], _ => trivial
  | p :: l, b :: bs, h => ⟨h.1.row hr hne hc, SubW.row hr hne hc h.2⟩
  | [], _ :: _, h => h.elim
  | _ :: _, [], h => h.elim
theorem SubW.ms (hm : m ≤ q.2) (hc : Ch (MS [(q.1, m)]) w w') : ∀ {l : Ads} {bs : List (List UInt8)}, (∀ p ∈ l, Ap q p) → SubW w Eb l bs → SubW w' Eb l bs
  | [], [], _, _ => trivial
  | p :: l, b :: bs, hap, h => ⟨h.1.ms (hap p List.mem_cons_self) hm hc, SubW.ms hm hc (fun r hr => hap r (List.mem_cons_of_mem _ hr)) h.2⟩
  | [], _ :: _, _, h => h.elim
  | _ :: _, [], _, h => h.elim
theorem SubW.c {l : Ads} {b : List UInt8} {bs : List (List UInt8)} (h : SubW w E l (b :: bs)) : ∃ a c r, l = (a, c) :: r ∧ W1 w E (a, c) b ∧ SubW w E r bs := by
  rcases l with _ | ⟨⟨a, c⟩, r⟩
  · exact h.elim
  · exact ⟨a, c, r, rfl, h.1, h.2⟩
theorem SubW.nn {l : Ads} (h : SubW w E l []) : l = [] := by
  rcases l with _ | ⟨p, r⟩
  · rfl
  · exact h.elim
end w1
section mk
variable {α : Type} {L : LTy α} {mk : α → Int → α} {wt : α → Int} {w w' w0 : World} {lo hi n c : Nat} {a : Option Addr} {k : Int}
def totL (wt : α → Int) : List α → Int
  | [] => 0
  | x :: l => wt x + totL wt l
def marksE (mk : α → Int → α) (wt : α → Int) : List α → Int → List α
  | [], _ => []
  | x :: l, k => mk x k :: marksE mk wt l (k + wt x)
theorem marksE_len : ∀ (l : List α) (k : Int), (marksE mk wt l k).length = l.length
  | [], _ => rfl
  | x :: l, k => by simp [marksE, marksE_len l]
theorem held_marksE {h : α → Int → Int} (hm : ∀ x k, 0 ≤ k → h (mk x k) k = k + wt x) (hw : ∀ x, 0 ≤ wt x) : ∀ (l : List α) (k : Int), 0 ≤ k → heldL h (marksE mk wt l k) k = k + totL wt l
  | [], k, _ => by simp [heldL, marksE, totL]
  | x :: l, k, hk => by
    have := hw x
    rw [marksE, heldL, hm x k hk, if_neg (by omega), held_marksE hm hw l (k + wt x) (by omega), totL]
    omega
def markY (mk : α → Int → α) (wt : α → Int) : List (El α) → Int → List (El α)
  | [], _ => []
  | e :: y, k => (mk e.1 k, e.2) :: markY mk wt y (k + wt e.1)
theorem markY_len : ∀ (y : List (El α)) (k : Int), (markY mk wt y k).length = y.length
  | [], _ => rfl
  | e :: y, k => by simp [markY, markY_len y]
theorem markY_snd : ∀ (y : List (El α)) (k : Int), (markY mk wt y k).flatMap Prod.snd = y.flatMap Prod.snd
  | [], _ => rfl
  | e :: y, k => by simp [markY, markY_snd y]
theorem markY_fst : ∀ (y : List (El α)) (k : Int), (markY mk wt y k).map Prod.fst = marksE mk wt (y.map Prod.fst) k
  | [], _ => rfl
  | e :: y, k => by simp [markY, marksE, markY_fst y]
theorem markY_snoc : ∀ (y : List (El α)) (e : El α) (k : Int), markY mk wt (y ++ [e]) k = markY mk wt y k ++ [(mk e.1 (k + totL wt (y.map Prod.fst)), e.2)]
  | [], e, k => by simp [markY, totL]
  | d :: y, e, k => by
    simp only [List.cons_append, markY, markY_snoc y e, totL, List.map_cons]
    rw [Int.add_assoc]
theorem totL_snoc : ∀ (l : List α) (x : α), totL wt (l ++ [x]) = totL wt l + wt x
  | [], x => by simp [totL]
  | y :: l, x => by simp only [List.cons_append, totL, totL_snoc l x]; omega
theorem totL_take {x : List α} {z : α} {i : Nat} (hi : i < x.length) : totL wt (x.take (i + 1)) = totL wt (x.take i) + wt (x.getD i z) := by
  rw [List.take_succ_eq_append_getElem hi, totL_snoc]
  simp [List.getElem?_eq_getElem hi]
theorem totL_bound {C : Int} (hb : ∀ x, 0 ≤ wt x) : ∀ (l : List α), (∀ x ∈ l, wt x ≤ C) → 0 ≤ totL wt l ∧ totL wt l ≤ C * l.length
  | [], _ => by simp [totL]
  | x :: l, h => by
    have h1 := totL_bound hb l fun y hy => h y (List.mem_cons_of_mem _ hy)
    have h2 := h x List.mem_cons_self
    have h3 := hb x
    simp only [totL, List.length_cons]
    push_cast
    rw [Int.mul_add]
    omega
/-- a block that holds a row of elements, or of their bytes -/
def RowAt (w : World) (L : LTy α) (g : Nat) : Prop := ∃ cur E, w.heap[g]? = some (.cells cur E (0, 0)) ∧ (E = L.E ∨ E = L.Eb)
def RowS (L : LTy α) (w : World) (lo hi : Nat) : Nat → Prop := fun b => lo ≤ b ∧ b < hi ∧ RowAt w L b
theorem rowat_blk {g : Nat} {E' : TypeId} {cs : List Value} (h : RowAt w L g) (hb : Blk w g E' cs) (h1 : L.E ≠ E') (h2 : L.Eb ≠ E') : False := by
  obtain ⟨cur, E, hg, hE⟩ := h
  unfold Blk at hb
  rw [hg] at hb
  injection hb with hb
  injection hb with _ hb _
  rcases hE with hE | hE
  · exact h1 (hE.symm.trans hb)
  · exact h2 (hE.symm.trans hb)
theorem rowat_own {lo sz n m : Nat} {E : TypeId} {z : Addr} {c : Nat} {xs : List Value} (h : w.ownsRow lo E sz (.slice (some z) n c) m xs) (hE : E = L.E ∨ E = L.Eb) : RowAt w L z.block := by
  rcases h.2 with ⟨hv, _⟩ | ⟨g, cap, cur, hv, _, hg, _⟩
  · injection hv with hv _ _; cases hv
  · injection hv with hv _ _
    injection hv with hv
    rw [hv]
    exact ⟨cur, E, hg, hE⟩
/-- the state of the loop: i elements are marked -/
structure MkI (L : LTy α) (mk : α → Int → α) (wt : α → Int) (w0 : World) (lo hi : Nat) (a : Option Addr) (n c : Nat) (y : List (El α)) (k : Int) (i : Nat) (w : World) : Prop where
  row : w.ownsRow lo L.E L.sz (.slice a n c) n ((markY mk wt (y.take i) k ++ y.drop i).flatMap L.enc)
  sub : ∀ e ∈ markY mk wt (y.take i) k ++ y.drop i, SubW w L.Eb e.2 (L.bs e.1)
  ch : Ch (RowS L w0 lo hi) w0 w
structure MkC (L : LTy α) (w0 : World) (lo hi : Nat) (a : Option Addr) (n c : Nat) (y : List (El α)) : Prop where
  len : y.length = n
  aps : Aps (y.flatMap Prod.snd)
  bd : ∀ p ∈ (a, c) :: y.flatMap Prod.snd, ∀ z, p.1 = some z → RowS L w0 lo hi z.block
theorem OLv.mark {x : List α} (h : OLv L w0 lo hi a n c x) : ∃ y : List (El α), y.map Prod.fst = x ∧ x.length = n ∧ n ≤ 1073741824 ∧ MkC L w0 lo hi a n c y ∧ MkI L mk wt w0 lo hi a n c y k 0 w0 := by
  obtain ⟨y, hy, hn, hr, hs, hap, hhi, hl⟩ := h
  refine ⟨y, hy, hn, hl, ⟨by rw [← hn, ← hy]; simp, ?_, fun p hp z hz => ⟨?_, hhi p hp z hz, ?_⟩⟩, ⟨by simpa [markY] using hr, fun e he => (hs e (by simpa [markY] using he)).wr (Nat.le_refl _), Ch.refl _ _⟩⟩
  · rw [aps_iff] at hap ⊢
    exact (List.pairwise_cons.1 hap).2
  · rcases List.mem_cons.1 hp with rfl | hp
    · exact (own_lt hr z.block (by rw [show a = some z from hz]; rfl)).1
    · obtain ⟨e, he, hp⟩ := List.mem_flatMap.1 hp
      exact ((hs e he).lt p hp z hz).1
  · rcases List.mem_cons.1 hp with rfl | hp
    · rw [show a = some z from hz] at hr
      exact rowat_own hr (.inl rfl)
    · obtain ⟨e, he, hp⟩ := List.mem_flatMap.1 hp
      obtain ⟨b, hb⟩ := (hs e he).own p hp
      rw [hz] at hb
      exact rowat_own hb (.inr rfl)
def Rst (L : LTy α) (w : World) (r : List (El α)) : Prop := ∀ e ∈ r, SubW w L.Eb e.2 (L.bs e.1)
theorem Rst.row {r : List (El α)} {lo sz n : Nat} {v : Value} {xs : List Value} (h : Rst L w r) (hr : w.ownsRow lo L.E sz v n xs) (hc : Ch (fun k => v.ownBlock = some k) w w') : Rst L w' r := fun e he => SubW.row hr L.ne hc (h e he)
theorem Rst.ms {r : List (El α)} {m : Nat} {q : Option Addr × Nat} (h : Rst L w r) (hap : ∀ p ∈ r.flatMap Prod.snd, Ap q p) (hm : m ≤ q.2) (hc : Ch (MS [(q.1, m)]) w w') : Rst L w' r :=
  fun e he => SubW.ms hm hc (fun p hp => hap p (List.mem_flatMap.2 ⟨e, he, hp⟩)) (h e he)
theorem MkI.open (z : α) {y : List (El α)} {i : Nat} (h : MkI L mk wt w0 lo hi a n c y k i w) (hC : MkC L w0 lo hi a n c y) (hin : i < n) : ∃ (x : α) (l : Ads), (y.map Prod.fst).getD i z = x ∧ (markY mk wt (y.take i) k ++ y.drop i).getD i (z, []) = (x, l) ∧
    SubW w L.Eb l (L.bs x) ∧ Rst L w (markY mk wt (y.take i) k ++ y.drop (i + 1)) ∧ Aps l ∧ (∀ q ∈ l, ∀ p ∈ (markY mk wt (y.take i) k ++ y.drop (i + 1)).flatMap Prod.snd, Ap q p) ∧ (∀ p ∈ l, ∀ z, p.1 = some z → RowS L w0 lo hi z.block) := by
  have hi' : i < y.length := by rw [hC.len]; exact hin
  have hd : y.drop i = y[i] :: y.drop (i + 1) := List.drop_eq_getElem_cons hi'
  have hsp : y = y.take i ++ y[i] :: y.drop (i + 1) := by rw [← hd, List.take_append_drop]
  have hlen : (markY mk wt (y.take i) k).length = i := by rw [markY_len, List.length_take]; omega
  have hap := hC.aps
  rw [hsp, List.flatMap_append, List.flatMap_cons, aps_iff, List.pairwise_append, List.pairwise_append] at hap
  refine ⟨y[i].1, y[i].2, by simp [List.getElem?_eq_getElem hi'], ?_, ?_, fun e he => ?_, ?_, fun q hq p hp => ?_, fun p hp => ?_⟩
  · rw [List.getD_eq_getElem?_getD, List.getElem?_append_right (by omega), hlen, Nat.sub_self, hd]
    rfl
  · exact h.sub y[i] (List.mem_append_right _ (by rw [hd]; exact List.mem_cons_self))
  · refine h.sub e ?_
    rw [hd]
    rcases List.mem_append.1 he with he | he
    · exact List.mem_append_left _ he
    · exact List.mem_append_right _ (List.mem_cons_of_mem _ he)
  · rw [aps_iff]; exact hap.2.1.1
  · rw [List.flatMap_append, markY_snd] at hp
    rcases List.mem_append.1 hp with hp | hp
    · exact (hap.2.2 p hp q (List.mem_append_left _ hq)).symm
    · exact hap.2.1.2.2 q hq p hp
  · refine hC.bd p (List.mem_cons_of_mem _ (List.mem_flatMap.2 ⟨y[i], List.getElem_mem hi', hp⟩))
theorem MkI.next (z : α) {y : List (El α)} {i : Nat} {x e' : α} {l : Ads} (hC : MkC L w0 lo hi a n c y) (hin : i < n) (hx : (markY mk wt (y.take i) k ++ y.drop i).getD i (z, []) = (x, l))
    (hr : w.ownsRow lo L.E L.sz (.slice a n c) n (((markY mk wt (y.take i) k ++ y.drop i).set i (e', l)).flatMap L.enc)) (he : L.enc (e', l) = L.enc (mk x (k + totL wt ((y.take i).map Prod.fst)), l)) (hs : SubW w L.Eb l (L.bs (mk x (k + totL wt ((y.take i).map Prod.fst)))))
    (hrst : Rst L w (markY mk wt (y.take i) k ++ y.drop (i + 1))) (hc : Ch (RowS L w0 lo hi) w0 w) : MkI L mk wt w0 lo hi a n c y k (i + 1) w := by
  have hi' : i < y.length := by rw [hC.len]; exact hin
  have hd : y.drop i = y[i] :: y.drop (i + 1) := List.drop_eq_getElem_cons hi'
  have hlen : (markY mk wt (y.take i) k).length = i := by rw [markY_len, List.length_take]; omega
  have hxi : y[i] = (x, l) := by
    rw [List.getD_eq_getElem?_getD, List.getElem?_append_right (by omega), hlen, Nat.sub_self, hd] at hx
    exact hx
  have hP : markY mk wt (y.take (i + 1)) k = markY mk wt (y.take i) k ++ [(mk x (k + totL wt ((y.take i).map Prod.fst)), l)] := by
    rw [List.take_succ_eq_append_getElem hi', markY_snoc, hxi]
  have hset : ∀ b : El α, (markY mk wt (y.take i) k ++ y.drop i).set i b = markY mk wt (y.take i) k ++ b :: y.drop (i + 1) := fun b => by
    rw [List.set_append_right _ _ (by omega), hlen, Nat.sub_self, hd, List.set_cons_zero]
  refine ⟨?_, fun e hem => ?_, hc⟩
  · rw [hset, List.flatMap_append, List.flatMap_cons, he] at hr
    rw [hP, List.flatMap_append, List.flatMap_append, List.flatMap_cons, List.flatMap_nil, List.append_nil, List.append_assoc]
    exact hr
  · rw [hP] at hem
    rcases List.mem_append.1 hem with hem | hem
    · rcases List.mem_append.1 hem with hem | hem
      · exact hrst e (List.mem_append_left _ hem)
      · obtain rfl : e = (mk x (k + totL wt ((y.take i).map Prod.fst)), l) := by simpa using hem
        exact hs
    · exact hrst e (List.mem_append_right _ hem)
theorem MkI.done {y : List (El α)} {x : List α} (h : MkI L mk wt w0 lo hi a n c y k n w) (hC : MkC L w0 lo hi a n c y) (hy : y.map Prod.fst = x) (hn : x.length = n) (hl : n ≤ 1073741824) : RLv L w 1073741824 a n c (marksE mk wt x k) := by
  have e1 : y.take n = y := List.take_of_length_le (by rw [hC.len]; omega)
  have e2 : y.drop n = [] := List.drop_eq_nil_of_le (by rw [hC.len]; omega)
  have hr := h.row
  have hs := h.sub
  rw [e1, e2, List.append_nil] at hr hs
  exact ⟨_, by rw [markY_fst, hy], by rw [marksE_len, hn], Rd.of_own hr, fun e he => (hs e he).rd, hl⟩
/-- it reads, and goes on so while nothing between lo and hi is written -/
def RLk {α : Type} (L : LTy α) (w : World) (lo hi : Nat) (a : Option Addr) (n c : Nat) (x : List α) : Prop := ∀ (S : Nat → Prop) (w' : World), Ch S w w' → (∀ g, lo ≤ g → g < hi → ¬ S g) → RLv L w' 1073741824 a n c x
theorem RLk.rl {α : Type} {L : LTy α} {w : World} {lo hi : Nat} {a : Option Addr} {n c : Nat} {x : List α} (h : RLk L w lo hi a n c x) : RLv L w 1073741824 a n c x := h (fun _ => False) w (Ch.refl _ _) fun _ _ _ => id
theorem RLk.ch {α : Type} {L : LTy α} {w w1 : World} {lo hi : Nat} {a : Option Addr} {n c : Nat} {x : List α} {S : Nat → Prop} (h : RLk L w lo hi a n c x) (hc : Ch S w w1) (hs : ∀ g, lo ≤ g → g < hi → ¬ S g) : RLk L w1 lo hi a n c x :=
  fun S' w' hc' hs' => h (fun g => S g ∨ S' g) w' ((hc.mono fun _ _ => .inl).comp hc' fun _ _ => .inr) fun g h1 h2 hg => hg.elim (hs g h1 h2) (hs' g h1 h2)
theorem RLk.kp {α : Type} {L : LTy α} {w w1 : World} {lo hi : Nat} {a : Option Addr} {n c : Nat} {x : List α} (h : RLk L w lo hi a n c x) (hc : Keep w w1) : RLk L w1 lo hi a n c x := h.ch hc fun _ _ _ => id
theorem MkI.doneK {y : List (El α)} {x : List α} (h : MkI L mk wt w0 lo hi a n c y k n w) (hC : MkC L w0 lo hi a n c y) (hy : y.map Prod.fst = x) (hn : x.length = n) (hl : n ≤ 1073741824) : RLk L w lo hi a n c (marksE mk wt x k) := by
  have e1 : y.take n = y := List.take_of_length_le (by rw [hC.len]; omega)
  have e2 : y.drop n = [] := List.drop_eq_nil_of_le (by rw [hC.len]; omega)
  have hr := h.row
  have hs := h.sub
  rw [e1, e2, List.append_nil] at hr hs
  intro S w' hc hS
  refine ⟨_, by rw [markY_fst, hy], by rw [marksE_len, hn], (Rd.of_own hr).ch hc fun g hg _ => ?_, fun e he => SubR.ch hc (hs e he).rd fun p hp z hz _ => ?_, hl⟩
  · rcases a with _ | z
    · cases hg
    · have : z.block = g := by simpa [Value.ownBlock] using hg
      subst this
      have hb := hC.bd _ List.mem_cons_self z rfl
      exact hS _ hb.1 hb.2.1
  · have hp' : p ∈ (markY mk wt y k).flatMap Prod.snd := List.mem_flatMap.2 ⟨e, he, hp⟩
    rw [markY_snd] at hp'
    have hb := hC.bd p (List.mem_cons_of_mem _ hp') z hz
    exact hS _ hb.1 hb.2.1
theorem ch_row {lo' sz m : Nat} {xs : List Value} (hc : Ch (RowS L w0 lo hi) w0 w) (h : Ch (fun k => (Value.slice a n c).ownBlock = some k) w w') {y : List (El α)} (hC : MkC L w0 lo hi a n c y) : Ch (RowS L w0 lo hi) w0 w' :=
  hc.comp h fun g _ hg => by
    rcases a with _ | z
    · cases hg
    · have : z.block = g := by simpa [Value.ownBlock] using hg
      subst this
      exact hC.bd _ List.mem_cons_self z rfl
theorem ch_ms {m : Nat} {q : Option Addr × Nat} (hc : Ch (RowS L w0 lo hi) w0 w) (h : Ch (MS [(q.1, m)]) w w') (hb : ∀ z, q.1 = some z → RowS L w0 lo hi z.block) : Ch (RowS L w0 lo hi) w0 w' :=
  hc.comp h fun g _ hg => by
    rcases hg with ⟨_, z, hz, rfl⟩ | hg
    · exact hb z hz
    · exact hg.elim
theorem SubO.bs {M : Nat} {E : TypeId} : ∀ {l : Ads} {bs : List (List UInt8)}, SubO w lo E M l bs → ∀ b ∈ bs, b.length ≤ M
  | [], [], _, b, hb => by cases hb
  | p :: l, q :: bs, h, b, hb => by
    rcases List.mem_cons.1 hb with rfl | hb
    · exact h.1.2
    · exact SubO.bs h.2 b hb
  | [], _ :: _, h, _, _ => h.elim
  | _ :: _, [], h, _, _ => h.elim
theorem OLv.bs {x : List α} (h : OLv L w lo hi a n c x) : ∀ e ∈ x, ∀ b ∈ L.bs e, b.length ≤ 1073741824 := by
  obtain ⟨y, rfl, hn, hr, hs, _⟩ := h
  intro e he b hb
  obtain ⟨q, hq, rfl⟩ := List.mem_map.1 he
  exact (hs q hq).bs b hb
theorem OLv.wb {x : List α} {C : Int} (h : OLv L w lo hi a n c x) (h0 : ∀ x, 0 ≤ wt x) (hC : ∀ x, (∀ b ∈ L.bs x, b.length ≤ 1073741824) → wt x ≤ C) (i : Nat) (hi : i ≤ x.length) : 0 ≤ totL wt (x.take i) ∧ totL wt (x.take i) ≤ C * i := by
  have := totL_bound h0 (x.take i) fun y hy => hC y (h.bs y (List.mem_of_mem_take hy))
  rw [List.length_take, Nat.min_eq_left hi] at this
  exact this
theorem set_same {β : Type} {P : List β} {i : Nat} {d b : β} (hi : i < P.length) (h : P.getD i d = b) : P.set i b = P := by
  have : P[i] = b := by rw [← h]; simp [List.getElem?_eq_getElem hi]
  rw [← this, List.set_getElem_self]
theorem ms_out {l : List (Option Addr × Nat)} {g : Nat} (h : ∀ p ∈ l, 0 < p.2 → ∀ x, p.1 = some x → x.block < lo ∨ hi ≤ x.block) (h1 : lo ≤ g) (h2 : g < hi) : ¬ MS l g := by
  induction l with
  | nil => exact fun h => h
  | cons p l ih =>
    rintro (⟨hn, x, hx, rfl⟩ | hk)
    · have := h p List.mem_cons_self hn x hx
      omega
    · exact ih (fun q hq => h q (List.mem_cons_of_mem _ hq)) hk
theorem ms_out_nil : ∀ p ∈ ([] : List (Option Addr × Nat)), 0 < p.2 → ∀ x, p.1 = some x → x.block < lo ∨ hi ≤ x.block := fun p h => by cases h
theorem ms_out_cons {b : Option Addr} {k : Nat} {l : List (Option Addr × Nat)} (h1 : 0 < k → ∀ x, b = some x → x.block < lo ∨ hi ≤ x.block) (h : ∀ p ∈ l, 0 < p.2 → ∀ x, p.1 = some x → x.block < lo ∨ hi ≤ x.block) : ∀ p ∈ (b, k) :: l, 0 < p.2 → ∀ x, p.1 = some x → x.block < lo ∨ hi ≤ x.block := by
  intro p hp
  rcases List.mem_cons.1 hp with rfl | hp
  · exact h1
  · exact h p hp
theorem wp_blk {w : World} {E E' : TypeId} {a : Option Addr} {n c sz g : Nat} {xs cs : List Value} {x : Addr} (h : Wp w E a n c xs sz) (hn : 0 < n) (hx : a = some x) (hb : Blk w g E' cs) (hne : E ≠ E') : x.block ≠ g := by
  rintro rfl
  rcases h with h | ⟨lo, h⟩
  · omega
  · rcases h.2 with ⟨hv, _⟩ | ⟨k1, _, _, hv, _, q1, _⟩
    · injection hv with hv _ _; rw [hx] at hv; cases hv
    · injection hv with hv _ _
      rw [hx] at hv
      injection hv with hv
      rw [← show x.block = k1 by rw [hv], show w.heap[x.block]? = _ from hb] at q1
      injection q1 with q1
      injection q1 with _ q1 _
      exact hne q1.symm
theorem rowat_back {g : Nat} (hk : Keep w w') (hg : g < w.heap.size) (h : RowAt w' L g) : RowAt w L g := by
  obtain ⟨cur, E, h1, h2⟩ := h
  exact ⟨cur, E, (hk.block g hg id).symm.trans h1, h2⟩
theorem held_pos {g : α → Int → Int} (hle : ∀ a l, g a l ≤ l ∨ g a l < 0) : ∀ (x : List α) (l : Int), 0 ≤ heldL g x l → ∀ e ∈ x, ∃ l', l' ≤ l ∧ 0 ≤ g e l'
  | [], _, _, e, he => by cases he
  | a :: x, l, h, e, he => by
    unfold heldL at h
    split at h
    · omega
    · rcases List.mem_cons.1 he with rfl | he
      · exact ⟨l, Int.le_refl _, by omega⟩
      · obtain ⟨l', h1, h2⟩ := held_pos hle x _ h e he
        refine ⟨l', ?_, h2⟩
        rcases hle a l with h3 | h3 <;> omega
end mk
section rng
variable {S : Nat → Prop} {w w' : World} {a b : Nat}
theorem rg_nil : ∀ p ∈ ([] : List (Option Addr × Nat)), 0 < p.2 → ∀ x, p.1 = some x → a ≤ x.block ∧ x.block < b := fun p h => by cases h
theorem rg_cons {lo sz n c m k : Nat} {E : TypeId} {xs : List Value} {v : Option Addr} {L : List (Option Addr × Nat)} (o : w.ownsRow lo E sz (.slice v n c) m xs) (h : ∀ p ∈ L, 0 < p.2 → ∀ x, p.1 = some x → lo ≤ x.block ∧ x.block < w.heap.size) :
    ∀ p ∈ (v, k) :: L, 0 < p.2 → ∀ x, p.1 = some x → lo ≤ x.block ∧ x.block < w.heap.size := fun p hp h0 x hx => by
  rcases List.mem_cons.1 hp with rfl | hp
  · exact own_lt o x.block (by rw [show v = some x from hx]; rfl)
  · exact h p hp h0 x hx
theorem ms_rng {L : List (Option Addr × Nat)} {k : Nat} (h : ∀ p ∈ L, 0 < p.2 → ∀ x, p.1 = some x → a ≤ x.block ∧ x.block < b) (hk : MS L k) : a ≤ k ∧ k < b := by
  induction L with
  | nil => exact hk.elim
  | cons p L ih =>
    rcases hk with ⟨hn, x, hx, rfl⟩ | hk
    · exact h p (List.mem_cons_self ..) hn x hx
    · exact ih (fun q hq => h q (List.mem_cons_of_mem _ hq)) hk
/-- all that the marks turn lies in a range of blocks -/
theorem rg {L : List (Option Addr × Nat)} (h : ∀ p ∈ L, 0 < p.2 → ∀ x, p.1 = some x → a ≤ x.block ∧ x.block < b) (c : Ch (MS L) w w') : Ch (fun k => a ≤ k ∧ k < b) w w' := c.mono fun _ _ hk => ms_rng h hk
theorem rn1 {g : Nat} (h : g < a) : ¬ (a ≤ g ∧ g < b) := fun q => by omega
theorem rn2 {g : Nat} (h : b ≤ g) : ¬ (a ≤ g ∧ g < b) := fun q => by omega
theorem nr1 {lo sz n m : Nat} {E : TypeId} {v : Value} {xs : List Value} (o : w.ownsRow lo E sz v n xs) (h : w.heap.size ≤ a) : ∀ g, v.ownBlock = some g → g < m → ¬ (a ≤ g ∧ g < b) := fun g hg _ hk => by
  have := (own_lt o g hg).2
  omega
theorem nr2 {lo sz n m : Nat} {E : TypeId} {v : Value} {xs : List Value} (o : w.ownsRow lo E sz v n xs) (h : b ≤ lo) : ∀ g, v.ownBlock = some g → g < m → ¬ (a ≤ g ∧ g < b) := fun g hg _ hk => by
  have := (own_lt o g hg).1
  omega
end rng
end Go.Proofs.Ytacoceibbheccaa.K
