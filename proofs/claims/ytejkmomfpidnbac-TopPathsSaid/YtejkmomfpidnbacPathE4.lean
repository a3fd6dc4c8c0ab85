/- The walk of the reference's split of a path, by the engine. -/
import Derived.Test.YtejkmomfpidnbacPathE3
namespace Go.Proofs.Ytejkmomfpidnbac
open Go.RowKit
set_option linter.unusedSimpArgs false
set_option linter.unusedVariables false
theorem drop_mid {l : List UInt8} {a i : Nat} (h : a ≤ i) : l.drop a = (l.drop a).take (i - a) ++ l.drop i := by
  have := List.take_append_drop (i - a) (l.drop a)
  rw [List.drop_drop, show a + (i - a) = i by omega] at this
  exact this.symm
theorem drop_get9 {l : List UInt8} {i : Nat} {b : UInt8} (h : l[i]? = some b) : l.drop i = b :: l.drop (i + 1) := by
  obtain ⟨hi, rfl⟩ := List.getElem?_eq_some_iff.1 h
  exact List.drop_eq_getElem_cons hi
theorem take_mid {l : List UInt8} {a i : Nat} {b : UInt8} (h : a ≤ i) (hb : l[i]? = some b) : (l.drop a).take (i + 1 - a) = (l.drop a).take (i - a) ++ [b] := by
  rw [show i + 1 - a = (i - a) + 1 by omega, List.take_add_one, List.getElem?_drop, show a + (i - a) = i by omega, hb]; rfl
attribute [local irreducible] AtQ GoC GoL GoW QO QP Fn RV OwnAt CellsFrom VLe SrcIs errV
set_option maxRecDepth 100000
end Go.Proofs.Ytejkmomfpidnbac
