/- A slice of Acts opened. -/
import Derived.Test.YtejkmomfpidnbaaOpen3
import Derived.Test.YtejkmomfpidnbaaDiskL2
namespace Go.Proofs.Ytejkmomfpidnbaa
open Go.ChangeShapes Go.WideShapes Go.ChangeAt Go.RowKit
open Go.Deep
set_option linter.unusedVariables false
section
variable {H : Type} {enc : TypeId × Value → H} {w : World} {base : Nat} {spare : Nat → Bool} {held : Bool}
theorem list4o {α : Type} {l : List α} (h : l.length = 4) : ∃ a b c d, l = [a, b, c, d] := by
  match l, h with
  | [a, b, c, d], _ => exact ⟨a, b, c, d, rfl⟩
theorem act_of_trod {n : Nat} {cs : List Value} {y : DataW H × List MemPlace} (h : DataW.trod enc Try.prog w base spare held n 45 cs = some y) : ∃ a : DA, cs = daC a ∧ daOk a := by
  obtain ⟨hl, hF⟩ := fields_of_trod Try.underlying45 h
  obtain ⟨c0, c1, c2, c3, rfl⟩ := list4o (hl.trans (by kernel_rfl))
  obtain ⟨a, rfl, wa⟩ := hF.string 0 rfl Try.underlying9 (by kernel_rfl) rfl
  obtain ⟨b, rfl, wb⟩ := hF.string 1 rfl Try.underlying9 (by kernel_rfl) rfl
  obtain ⟨c, rfl, wc⟩ := hF.int 2 rfl Try.underlying3 (by kernel_rfl) rfl
  obtain ⟨d, rfl, wd⟩ := hF.int 3 rfl Try.underlying3 (by kernel_rfl) rfl
  exact ⟨⟨a, b, c, d⟩, rfl, wa, wb, i64_of_wf wc, i64_of_wf wd⟩
theorem act_cells : Try.prog.cellsOf 45 = 4 := by kernel_rfl
set_option maxRecDepth 100000 in
theorem acts_arg {r : Reach} {b0 : Nat} {v : Value} {d : DataW H} {p : List MemPlace} (hv : Value.okWide Try.prog w r b0 33 v) (h : DataW.Trod enc Try.prog w base spare held 33 v d p) : ∃ A n c xs, v = .slice A n c ∧ n ≤ c ∧ ElsV (fullV w) 4 daC A n xs ∧ ∀ a ∈ xs, daOk a := by
  obtain ⟨A, n, c, rfl⟩ := okWide_slice Try.underlying33 hv
  obtain ⟨fuel, x, hf⟩ := open_arg h rfl
  obtain ⟨A, n, c, xs, h1, h2, h3, h4⟩ := els_of_trod daC daOk Try.underlying33 (by rw [act_cells]; omega) (fun m cs y _ _ hy => act_of_trod hy) hf
  rw [act_cells] at h3
  exact ⟨A, n, c, xs, h1, h2, h3, h4⟩
end
end Go.Proofs.Ytejkmomfpidnbaa
