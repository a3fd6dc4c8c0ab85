/- Names and classes of strings, as the walks meet them. No program is named here. -/
import Derived.Test.YtejkmomfpidnbaaAttrP
namespace Go.Proofs.Ytejkmomfpidnbaa
open Go.RowKit
set_option linter.unusedSimpArgs false
set_option linter.unusedVariables false
theorem ba_get (s : ByteArray) (k : Nat) : s[k]? = s.toList[k]? := by
  rw [Lib.toList_data, Array.getElem?_toList]
  rcases Nat.lt_or_ge k s.size with h | h
  · rw [getElem?_pos s k h, getElem?_pos s.data k h]; rfl
  · rw [getElem?_neg s k (by omega), getElem?_neg s.data k (by have : s.data.size = s.size := rfl; omega)]
theorem ba_len (s : ByteArray) : s.toList.length = s.size := by rw [Lib.toList_data]; rfl
theorem ba_at {s : ByteArray} {k : Nat} (h : k < s.size) : ∃ c, s.toList[k]? = some c ∧ s[((k : Nat) : Int).toNat]? = some c := by
  have hk : k < s.toList.length := by rw [ba_len]; exact h
  refine ⟨_, List.getElem?_eq_getElem hk, ?_⟩
  rw [Int.toNat_natCast, ba_get, List.getElem?_eq_getElem hk]
theorem ba_eq {s : ByteArray} {a : Array UInt8} : s = ⟨a⟩ ↔ s.toList = a.toList := by
  constructor
  · intro h; subst h; rw [Lib.toList_data]
  · intro h; apply str_ext; rw [h, Lib.toList_data]
theorem okCh_iff (c : UInt8) : okCh c = true ↔ (97 ≤ (c.toNat : Int) ∧ (c.toNat : Int) ≤ 122) ∨ (48 ≤ (c.toNat : Int) ∧ (c.toNat : Int) ≤ 57) ∨ (c.toNat : Int) = 46 ∨ (c.toNat : Int) = 95 ∨ (c.toNat : Int) = 45 := by
  have e : ∀ k : UInt8, c = k ↔ (c.toNat : Int) = (k.toNat : Int) := fun k => by
    rw [← UInt8.toNat_inj]; omega
  simp only [okCh, Bool.or_eq_true, Bool.and_eq_true, decide_eq_true_eq, beq_iff_eq, e]
  have h1 : ((46 : UInt8).toNat : Int) = 46 := rfl
  have h2 : ((95 : UInt8).toNat : Int) = 95 := rfl
  have h3 : ((45 : UInt8).toNat : Int) = 45 := rfl
  rw [h1, h2, h3]
  omega
theorem nameZ_iff (s : ByteArray) : nameZ s.toList = true ↔ 1 ≤ s.size ∧ s.size ≤ 12 ∧ ¬ s = ⟨#[46]⟩ ∧ ¬ s = ⟨#[46, 46]⟩ ∧ s.toList.all okCh = true := by
  rw [ba_eq, ba_eq, ← ba_len]
  simp only [nameZ, Bool.and_eq_true, decide_eq_true_eq, Bool.not_eq_true', beq_eq_false_iff_ne, ne_eq, and_assoc]
theorem all_snoc {s : List UInt8} {k : Nat} {c : UInt8} (h : s[k]? = some c) (h1 : (s.take k).all okCh = true) (h2 : okCh c = true) : (s.take (k + 1)).all okCh = true := by
  rw [List.take_add_one, h, List.all_append, h1]; simp [h2]
theorem all_not {s : List UInt8} {k : Nat} {c : UInt8} (h : s[k]? = some c) (h2 : ¬ okCh c = true) : ¬ s.all okCh = true := by
  rw [List.all_eq_true]
  intro hh
  exact h2 (hh c (List.mem_of_getElem? h))
theorem nameZ_not {s : ByteArray} (h : ¬ (1 ≤ s.size ∧ s.size ≤ 12) ∨ s = ⟨#[46]⟩ ∨ s = ⟨#[46, 46]⟩ ∨ ¬ s.toList.all okCh = true) : nameZ s.toList = false := by
  cases hb : nameZ s.toList
  · rfl
  · rw [nameZ_iff] at hb
    obtain ⟨h1, h2, h3, h4, h5⟩ := hb
    rcases h with h | h | h | h
    · exact absurd ⟨h1, h2⟩ h
    · exact absurd h h3
    · exact absurd h h4
    · exact absurd h5 h
theorem nameZ_yes {s : ByteArray} (h1 : 1 ≤ s.size) (h2 : s.size ≤ 12) (h3 : ¬ s = ⟨#[46]⟩) (h4 : ¬ s = ⟨#[46, 46]⟩) (h5 : s.toList.all okCh = true) : nameZ s.toList = true := (nameZ_iff s).2 ⟨h1, h2, h3, h4, h5⟩
/-- Parts of a string. -/
theorem ba_drop (s : ByteArray) (l : Nat) (h : l ≤ s.size) : (s.extract l s.size).toList = s.toList.drop l := by
  rw [Lib.toList_data, Lib.toList_data]
  apply List.ext_getElem?
  intro i
  rw [List.getElem?_drop, Array.getElem?_toList, Array.getElem?_toList]
  have e : (s.extract l s.size).data = s.data.extract l s.size := by simp [ByteArray.extract, ByteArray.copySlice]; congr 1; omega
  rw [e, Array.getElem?_extract]
  have hs : s.data.size = s.size := rfl
  split
  · rfl
  · rw [Array.getElem?_eq_none]; omega
theorem ba_take (s : ByteArray) (h' : Nat) (h : h' ≤ s.size) : (s.extract 0 h').toList = s.toList.take h' := by
  rw [Lib.toList_data, Lib.toList_data]
  apply List.ext_getElem?
  intro i
  rw [List.getElem?_take, Array.getElem?_toList, Array.getElem?_toList]
  have e : (s.extract 0 h').data = s.data.extract 0 h' := by simp [ByteArray.extract, ByteArray.copySlice]; try rfl
  rw [e, Array.getElem?_extract]
  have hs : s.data.size = s.size := rfl
  by_cases hi : i < h'
  · rw [if_pos (by omega), if_pos hi, Nat.zero_add]
  · rw [if_neg (by omega), if_neg hi]
theorem ba_size (s : ByteArray) (l h : Nat) (h1 : l ≤ h) (h2 : h ≤ s.size) : (s.extract l h).size = h - l := by
  rw [ByteArray.size_extract]; omega
end Go.Proofs.Ytejkmomfpidnbaa
