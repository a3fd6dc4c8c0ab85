/- The walks of the reference's check of a tree, by the engine. -/
import Derived.Test.YtejkmomfpidnbacTreeE13
namespace Go.Proofs.Ytejkmomfpidnbac
open Go.RowKit
set_option linter.unusedSimpArgs false
set_option linter.unusedVariables false
theorem over_next {c : Nat × Int} {r : Nat × Int} {m2 : Nat} {q : Nat × Int} (h3 : r.2 = 0 → m2 = r.1) (h1 : ¬ r.2 = 0 → c = r) (h2 : r.2 = 0 → c = q) : (r.2 = 0 ∧ c = q) ∨ (¬ r.2 = 0 ∧ c.2 = r.2) := by
  by_cases h : r.2 = 0
  · exact .inl ⟨h, h2 h⟩
  · exact .inr ⟨h, by rw [h1 h]⟩
attribute [local irreducible] AtQ GoC GoL GoW QO QP Fn RV OwnAt CellsFrom VLe SrcIs errV
set_option maxRecDepth 100000
end Go.Proofs.Ytejkmomfpidnbac
