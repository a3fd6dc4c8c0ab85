/- The walks of sort.Search, of Get, Set, Drop, by the engine. -/
import Derived.Test.YtejkmomfpidnbabAttrE
namespace Go.Proofs.Ytejkmomfpidnbab
open Go.RowKit
set_option linter.unusedSimpArgs false
set_option linter.unusedVariables false
theorem not_t' {b : Bool} (h : (!b) = true) : b = false := by cases b <;> simp_all
theorem not_f' {b : Bool} (h : (!b) = false) : b = true := by cases b <;> simp_all
attribute [local irreducible] AtQ GoC GoL GoW QO QP Fn RV OwnAt CellsFrom VLe SrcIs errV
set_option maxRecDepth 100000
end Go.Proofs.Ytejkmomfpidnbab
