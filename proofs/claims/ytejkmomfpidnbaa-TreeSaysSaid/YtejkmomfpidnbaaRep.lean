/- What a view knows of slices. No program is named here. -/
import Derived.Test.YtejkmomfpidnbaaOps3
namespace Go.Proofs.Ytejkmomfpidnbaa
open Go.RowKit
set_option linter.unusedSimpArgs false
set_option linter.unusedVariables false

/-- The cells of a slice of n elements, sz cells each, are the list cs. -/
def CellsV (V : View) (sz : Nat) (A : Option Addr) (n : Nat) (cs : List Value) : Prop :=
  cs.length = n * sz ∧ (0 < n → ∃ b off, A = some ⟨b, off, none⟩ ∧ CellsFrom V b off cs)
theorem CellsV.le {V V' : View} {sz n : Nat} {A : Option Addr} {cs : List Value} (h : CellsV V sz A n cs) (hv : VLe V V') : CellsV V' sz A n cs :=
  ⟨h.1, fun hn => let ⟨b, off, ha, hc⟩ := h.2 hn; ⟨b, off, ha, hc.le hv⟩⟩
theorem CellsV.nil {V : View} {sz : Nat} {A : Option Addr} : CellsV V sz A 0 [] := ⟨by simp, fun h => absurd h (by omega)⟩

/-- A slice of ints. -/
def IntsV (V : View) (A : Option Addr) (n : Nat) (xs : List Int) : Prop := xs.length = n ∧ n ≤ maxLen ∧ CellsV V 1 A n (xs.map (.int .i64))
theorem IntsV.le {V V' : View} {n : Nat} {A : Option Addr} {xs : List Int} (h : IntsV V A n xs) (hv : VLe V V') : IntsV V' A n xs := ⟨h.1, h.2.1, h.2.2.le hv⟩
theorem IntsV.nil {V : View} {A : Option Addr} : IntsV V A 0 [] := ⟨rfl, Nat.zero_le _, CellsV.nil⟩
theorem IntsV.max {V : View} {n : Nat} {A : Option Addr} {xs : List Int} (h : IntsV V A n xs) : n ≤ 9223372036854775807 := by
  have := h.2.1; unfold maxLen at this; omega
/-- What a round that reads element k is told. -/
theorem IntsV.at_ {V : View} {n k : Nat} {A : Option Addr} {xs : List Int} (h : IntsV V A n xs) (hk : k < n) : ∃ b off z, A = some ⟨b, off, none⟩ ∧ xs[k]? = some z ∧ V ⟨b, off + k * 1, none⟩ = some (.int .i64 z) := by
  obtain ⟨h1, _, _, h3⟩ := h
  obtain ⟨b, off, ha, hc⟩ := h3 (by omega)
  have hx : xs[k]? = some (xs[k]'(by omega)) := List.getElem?_eq_getElem (by omega)
  exact ⟨b, off, _, ha, hx, by rw [Nat.mul_one]; exact hc k _ (by rw [List.getElem?_map, hx]; rfl)⟩
end Go.Proofs.Ytejkmomfpidnbaa
