/- The plain side of the law on ClientNew. -/
import Derived.Test.YtjcahjhnnagkdaaWe3
namespace Go.Proofs.Ytjcahjhnnagkdaa.K
set_option linter.unusedSimpArgs false
set_option linter.unusedVariables false
set_option maxRecDepth 10000
theorem l1In_within : s_l1In = i_within := rfl
theorem eqB_self (x : List UInt8) : eqB x x = true := by simp [eqB]
theorem eqI_self (x : List Int) : eqI x x = true := by simp [eqI]
theorem eqAddr_self (x : PAddr) : l_eqAddr x x = true := by simp [l_eqAddr]
theorem eqWin_self (x : PWin) : l_eqWin x x = true := by simp [l_eqWin, eqI_self]
theorem eqEp_self (x : PEp) : l_eqEp x x = true := by simp [l_eqEp, eqB_self, eqWin_self]
theorem eqChan_self (x : PChan) : l_eqChan x x = true := by simp [l_eqChan, eqB_self, eqEp_self]
theorem eqFrame_self (x : PFrame) : l_eqFrame x x = true := by simp [l_eqFrame, eqB_self]
theorem eqTimer_self (x : PTimer) : l_eqTimer x x = true := by simp [l_eqTimer]
theorem eqClient_self (x : PClient) : l_eqClient x x = true := by simp [l_eqClient, eqB_self, eqAddr_self, eqFrame_self, eqChan_self, eqTimer_self]
theorem ClientNew_eq (i : Int) (p : List UInt8) (a : PAddr) : i_ClientNew i p a = s_ClientNew i p a := by
  have h1 : i_sameFrame { Kind := 0, Id := 0, Cn := [], Sn := [], Tick := 0, Cookie := [], Proof := [], Epoch := 0, Seq := 0, Body := [], Tag := [] : PFrame } { Kind := 0, Id := 0, Cn := [], Sn := [], Tick := 0, Cookie := [], Proof := [], Epoch := 0, Seq := 0, Body := [], Tag := [] : PFrame } = true := by
    simp [i_sameFrame, b_Equal, eqS_mk]
  have h2 : i_isZeroChan { Role := 0, Sn := [], Cur := { N := 0, Key := [], Seq := 0, Win := { Top := 0, Bits := [] : PWin } : PEp }, Old := { N := 0, Key := [], Seq := 0, Win := { Top := 0, Bits := [] : PWin } : PEp }, HasOld := false, Until := 0, Next := [] : PChan } = true := by
    simp [i_isZeroChan, i_sameEp, b_Equal, eqS_mk, eqI]
  simp only [i_ClientNew, i_ClientOk, i_clone, s_ClientNew, h1, h2, l1In_within, show s_PskOk = i_PskOk from rfl, show s_AddrOk = i_AddrOk from rfl]
  cases i_within i 1 9 <;> cases i_PskOk p <;> cases i_AddrOk a <;> rfl
theorem heldFrame_marks (i2 i3 i4 i5 i6 k : Int) (n1 n2 n3 n4 n5 n6 : Nat) (hk : 0 ≤ k) :
    l_heldFrame { Kind := i2, Id := i3, Cn := marksB k n1, Sn := marksB (k + (n1 : Int)) n2, Tick := i4, Cookie := marksB ((k + (n1 : Int)) + (n2 : Int)) n3, Proof := marksB (((k + (n1 : Int)) + (n2 : Int)) + (n3 : Int)) n4, Epoch := i5, Seq := i6, Body := marksB ((((k + (n1 : Int)) + (n2 : Int)) + (n3 : Int)) + (n4 : Int)) n5, Tag := marksB (((((k + (n1 : Int)) + (n2 : Int)) + (n3 : Int)) + (n4 : Int)) + (n5 : Int)) n6 : PFrame } k = (((((k + (n1 : Int)) + (n2 : Int)) + (n3 : Int)) + (n4 : Int)) + (n5 : Int)) + (n6 : Int) := by
  simp only [l_heldFrame, heldB_marks, cond_eq_ite, decide_eq_true_eq]
  (repeat' split) <;> omega
theorem heldChan_marks (r u n1 n2 s1 s2 t1 t2 k : Int) (hb : Bool) (a b c d e f : Nat) (hk : 0 ≤ k) :
    l_heldChan { Role := r, Sn := marksB k a, Cur := { N := n1, Key := marksB (k + (a : Int)) b, Seq := s1, Win := { Top := t1, Bits := marksI ((k + (a : Int)) + (b : Int)) c } }, Old := { N := n2, Key := marksB (((k + (a : Int)) + (b : Int)) + (c : Int)) d, Seq := s2, Win := { Top := t2, Bits := marksI ((((k + (a : Int)) + (b : Int)) + (c : Int)) + (d : Int)) e } }, HasOld := hb, Until := u, Next := marksB (((((k + (a : Int)) + (b : Int)) + (c : Int)) + (d : Int)) + (e : Int)) f } k = (((((k + (a : Int)) + (b : Int)) + (c : Int)) + (d : Int)) + (e : Int)) + (f : Int) := by
  have h1 : l_heldEp { N := n1, Key := marksB (k + (a : Int)) b, Seq := s1, Win := { Top := t1, Bits := marksI ((k + (a : Int)) + (b : Int)) c } } (k + (a : Int)) = ((k + (a : Int)) + (b : Int)) + (c : Int) := by
    simp only [l_heldEp, l_heldWin, heldB_marks, heldI_marks, cond_eq_ite, decide_eq_true_eq]
    (repeat' split) <;> omega
  have h2 : l_heldEp { N := n2, Key := marksB (((k + (a : Int)) + (b : Int)) + (c : Int)) d, Seq := s2, Win := { Top := t2, Bits := marksI ((((k + (a : Int)) + (b : Int)) + (c : Int)) + (d : Int)) e } } (((k + (a : Int)) + (b : Int)) + (c : Int)) = ((((k + (a : Int)) + (b : Int)) + (c : Int)) + (d : Int)) + (e : Int) := by
    simp only [l_heldEp, l_heldWin, heldB_marks, heldI_marks, cond_eq_ite, decide_eq_true_eq]
    (repeat' split) <;> omega
  simp only [l_heldChan, heldB_marks, h1, h2, cond_eq_ite, decide_eq_true_eq]
  (repeat' split) <;> omega
theorem heldClient_marks (at0 : PAddr) (t0 t1 : PTimer) (i0 i1 i2 i3 i4 i5 i6 i7 i8 i9 i10 i11 i12 i13 i14 i15 k : Int) (b0 : Bool) (n1 n2 n3 n4 n5 n6 n7 n8 n9 n10 n11 n12 n13 n14 : Nat) (hk : 0 ≤ k) :
    l_heldClient { Id := i0, Psk := marksB k n1, At := at0, St := i1, Cn := marksB (k + (n1 : Int)) n2, Fin := { Kind := i2, Id := i3, Cn := marksB ((k + (n1 : Int)) + (n2 : Int)) n3, Sn := marksB (((k + (n1 : Int)) + (n2 : Int)) + (n3 : Int)) n4, Tick := i4, Cookie := marksB ((((k + (n1 : Int)) + (n2 : Int)) + (n3 : Int)) + (n4 : Int)) n5, Proof := marksB (((((k + (n1 : Int)) + (n2 : Int)) + (n3 : Int)) + (n4 : Int)) + (n5 : Int)) n6, Epoch := i5, Seq := i6, Body := marksB ((((((k + (n1 : Int)) + (n2 : Int)) + (n3 : Int)) + (n4 : Int)) + (n5 : Int)) + (n6 : Int)) n7, Tag := marksB (((((((k + (n1 : Int)) + (n2 : Int)) + (n3 : Int)) + (n4 : Int)) + (n5 : Int)) + (n6 : Int)) + (n7 : Int)) n8 : PFrame }, C := { Role := i7, Sn := marksB ((((((((k + (n1 : Int)) + (n2 : Int)) + (n3 : Int)) + (n4 : Int)) + (n5 : Int)) + (n6 : Int)) + (n7 : Int)) + (n8 : Int)) n9, Cur := { N := i8, Key := marksB (((((((((k + (n1 : Int)) + (n2 : Int)) + (n3 : Int)) + (n4 : Int)) + (n5 : Int)) + (n6 : Int)) + (n7 : Int)) + (n8 : Int)) + (n9 : Int)) n10, Seq := i9, Win := { Top := i10, Bits := marksI ((((((((((k + (n1 : Int)) + (n2 : Int)) + (n3 : Int)) + (n4 : Int)) + (n5 : Int)) + (n6 : Int)) + (n7 : Int)) + (n8 : Int)) + (n9 : Int)) + (n10 : Int)) n11 : PWin } : PEp }, Old := { N := i11, Key := marksB (((((((((((k + (n1 : Int)) + (n2 : Int)) + (n3 : Int)) + (n4 : Int)) + (n5 : Int)) + (n6 : Int)) + (n7 : Int)) + (n8 : Int)) + (n9 : Int)) + (n10 : Int)) + (n11 : Int)) n12, Seq := i12, Win := { Top := i13, Bits := marksI ((((((((((((k + (n1 : Int)) + (n2 : Int)) + (n3 : Int)) + (n4 : Int)) + (n5 : Int)) + (n6 : Int)) + (n7 : Int)) + (n8 : Int)) + (n9 : Int)) + (n10 : Int)) + (n11 : Int)) + (n12 : Int)) n13 : PWin } : PEp }, HasOld := b0, Until := i14, Next := marksB (((((((((((((k + (n1 : Int)) + (n2 : Int)) + (n3 : Int)) + (n4 : Int)) + (n5 : Int)) + (n6 : Int)) + (n7 : Int)) + (n8 : Int)) + (n9 : Int)) + (n10 : Int)) + (n11 : Int)) + (n12 : Int)) + (n13 : Int)) n14 : PChan }, T := t0, R := t1, Last := i15 : PClient } k = ((((((((((((((k + (n1 : Int)) + (n2 : Int)) + (n3 : Int)) + (n4 : Int)) + (n5 : Int)) + (n6 : Int)) + (n7 : Int)) + (n8 : Int)) + (n9 : Int)) + (n10 : Int)) + (n11 : Int)) + (n12 : Int)) + (n13 : Int)) + (n14 : Int)) := by
  simp only [l_heldClient, heldB_marks, cond_eq_ite, decide_eq_true_eq]
  rw [heldFrame_marks _ _ _ _ _ _ _ _ _ _ _ _ (by omega), heldChan_marks _ _ _ _ _ _ _ _ _ _ _ _ _ _ _ _ (by omega)]
  (repeat' split) <;> omega
attribute [local irreducible] s_ClientNew i_ClientNew
theorem law_ClientNew (i : Int) (p : List UInt8) (a : PAddr) : l_FnExactClientNew i p a = true := by
  unfold l_FnExactClientNew
  rw [ClientNew_eq, eqClient_self, eqB_self]
  generalize s_ClientNew i (cpB p) (l_toAddr a) = y
  rw [heldClient_marks (k := 1) (hk := by decide)]
  cases decide (1048576 < (p.length : Int))
  · have h : decide ((1 + ((cpB p).length : Int)) < 0) = false := decide_eq_false (by omega)
    simp only [h, cond_true, cond_false, decide_true]
    simp only [cond_eq_ite, decide_eq_true_eq]
    (repeat' split) <;> first | rfl | (exfalso; omega)
  · rfl
end Go.Proofs.Ytjcahjhnnagkdaa.K
