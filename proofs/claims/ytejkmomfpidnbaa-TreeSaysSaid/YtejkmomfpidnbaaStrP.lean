/- Names and strings in plain terms. No program is named here. -/
import Derived.Test.YtejkmomfpidnbaaBase
import Derived.Lib.Strings
namespace Go.Proofs.Ytejkmomfpidnbaa
open Go.RowKit
set_option linter.unusedSimpArgs false
set_option linter.unusedVariables false

def okCh (c : UInt8) : Bool := (decide (97 ≤ c.toNat) && decide (c.toNat ≤ 122)) || (decide (48 ≤ c.toNat) && decide (c.toNat ≤ 57)) || c == 46 || c == 95 || c == 45
/-- May these bytes be a name? -/
def nameZ (l : List UInt8) : Bool := decide (1 ≤ l.length) && decide (l.length ≤ 12) && !(l == [46]) && !(l == [46, 46]) && l.all okCh

theorem bytesLess_lt : ∀ (x y : List UInt8), Op.bytesLess x y = decide (x < y)
  | [], [] => by simp [Op.bytesLess]
  | _ :: _, [] => by simp [Op.bytesLess]
  | [], _ :: _ => by simp [Op.bytesLess]
  | a :: x, b :: y => by
    rw [Op.bytesLess, bytesLess_lt x y]
    simp only [List.cons_lt_cons_iff]
    by_cases h1 : a < b <;> by_cases h2 : a = b <;> by_cases h3 : x < y <;> simp [h1, h2, h3]
theorem str_ext {a b : ByteArray} (h : a.toList = b.toList) : a = b := by
  have h1 : a.data.toList = b.data.toList := by rw [← Lib.toList_data, ← Lib.toList_data]; exact h
  cases a; cases b; congr 1
  exact Array.toList_inj.1 h1
theorem str_beq (a b : ByteArray) : (a.toList == b.toList) = decide (a = b) := by
  rw [Bool.eq_iff_iff]; simp
  exact ⟨str_ext, fun h => by rw [h]⟩
theorem ba_take' (s : ByteArray) (h' : Nat) (h : h' ≤ s.size) : (s.extract 0 h').toList = s.toList.take h' := by
  rw [Lib.toList_data, Lib.toList_data]
  apply List.ext_getElem?
  intro i
  rw [List.getElem?_take, Array.getElem?_toList, Array.getElem?_toList]
  have e : (s.extract 0 h').data = s.data.extract 0 h' := by simp [ByteArray.extract, ByteArray.copySlice]; try rfl
  rw [e, Array.getElem?_extract]
  have hs : s.data.size = s.size := rfl
  by_cases hi : i < h'
  · rw [if_pos (by omega), if_pos hi, Nat.zero_add]
  · rw [if_neg (by omega), if_neg hi]
end Go.Proofs.Ytejkmomfpidnbaa
