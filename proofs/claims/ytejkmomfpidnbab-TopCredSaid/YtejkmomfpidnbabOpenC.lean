/- A cred as an argument. -/
import Derived.Test.YtejkmomfpidnbabChecked
import Derived.Test.YtejkmomfpidnbabTy
import Derived.Test.YtejkmomfpidnbabFn
namespace Go.Proofs.Ytejkmomfpidnbab
open Go.ChangeShapes Go.WideShapes Go.ChangeAt Go.RowKit
open Go.Deep
set_option linter.unusedVariables false
set_option maxRecDepth 100000 in
theorem cred_arg {H : Type} {enc : TypeId × Value → H} {w : World} {base : Nat} {spare : Nat → Bool} {held : Bool} {r : Reach} {b0 : Nat} {v : Value} {dd : DataW H} {p : List MemPlace} (hv : Value.okWide Try.prog w r b0 24 v) (h : DataW.Trod enc Try.prog w base spare held 24 v dd p) : ∃ a b d A n c xs, v = .agg #[.int .i64 a, .int .i64 b, .slice A n c, .int .i64 d] ∧ IntsV (fullV w) A n xs := by
  obtain ⟨cs, rfl, hl, hF⟩ := agg_of_trod Try.underlying24 hv h
  obtain ⟨c0, c1, c2, c3, rfl⟩ := list4 (hl.trans (by kernel_rfl))
  obtain ⟨a, rfl, _⟩ := hF.int 0 rfl Try.underlying3 (by kernel_rfl) rfl
  obtain ⟨b, rfl, _⟩ := hF.int 1 rfl Try.underlying3 (by kernel_rfl) rfl
  obtain ⟨A, n, c, xs, rfl, hI, _⟩ := hF.ints 2 rfl Try.underlying22 Try.underlying3 (by kernel_rfl) (by kernel_rfl) rfl
  obtain ⟨d, rfl, _⟩ := hF.int 3 rfl Try.underlying3 (by kernel_rfl) rfl
  exact ⟨a, b, d, A, n, c, xs, rfl, hI.view⟩
end Go.Proofs.Ytejkmomfpidnbab
