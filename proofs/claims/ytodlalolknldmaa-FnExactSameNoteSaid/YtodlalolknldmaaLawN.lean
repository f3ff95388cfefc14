/- The plain side of the laws on NoteOk and SameNote. -/
import Derived.Test.YtodlalolknldmaaWn2
namespace Go.Proofs.Ytodlalolknldmaa.K
set_option linter.unusedSimpArgs false
theorem l1In_within : F_spec_l1In = F_impl_within := rfl
theorem AddrOk_eq (a : PAddr) : F_impl_AddrOk a = F_spec_AddrOk a := by
  simp only [F_impl_AddrOk, F_spec_AddrOk, l1In_within, cond_eq_ite]
  try grind
theorem emptyOr_eq (x : List UInt8) (n : Int) : F_impl_emptyOr x n = F_spec_l18Len (x.length : Int) n := by
  simp only [F_impl_emptyOr, F_spec_l18Len, cond_eq_ite]
  try grind
theorem NoteOk_eq (n : PNote) : F_impl_NoteOk n = F_spec_NoteOk n := by
  simp only [F_impl_NoteOk, F_spec_NoteOk, l1In_within, AddrOk_eq, emptyOr_eq]
  cases F_impl_within n.Kind 1 17 <;> cases F_impl_within n.Id 0 9 <;> simp
  cases F_impl_within n.Role 0 1 <;> simp
  cases F_impl_within n.Epoch 0 4294967295 <;> simp
  cases F_impl_within n.Seq 0 281474976710655 <;> simp
  cases F_spec_l18Len (n.Cn.length : Int) 12 <;> simp
  cases F_spec_l18Len (n.Sn.length : Int) 12 <;> simp
  cases F_spec_l18Len (n.Key.length : Int) 32 <;> simp
  cases F_impl_within n.Now 0 1000000 <;> simp
theorem eqB_self (x : List UInt8) : eqB x x = true := by simp [eqB]
theorem eqAddr_self (x : PAddr) : F_laws_eqAddr x x = true := by simp [F_laws_eqAddr]
theorem eqNote_self (x : PNote) : F_laws_eqNote x x = true := by simp [F_laws_eqNote, eqAddr_self, eqB_self]
theorem toNote_eq (x : PNote) : F_laws_toNote x = x := by simp [F_laws_toNote, F_laws_toAddr, cpB]
theorem law_NoteOk (n : PNote) : F_laws_FnExactNoteOk n = true := by
  simp [F_laws_FnExactNoteOk, NoteOk_eq, toNote_eq, eqNote_self]
theorem SameNote_eq (a b : PNote) : F_impl_SameNote a b = F_spec_SameNote a b := by
  simp only [F_impl_SameNote, F_spec_SameNote, F_bytes_Equal, F_spec_l1Same, eqS_mk, cond_eq_ite]
  grind
theorem law_SameNote (a b : PNote) : F_laws_FnExactSameNote a b = true := by
  simp [F_laws_FnExactSameNote, SameNote_eq, eqNote_self]
end Go.Proofs.Ytodlalolknldmaa.K
