/- A slice of Steps opened. -/
import Derived.Test.YtejkmomfpidnbaaOpenT
import Derived.Test.YtejkmomfpidnbaaQuotaL
namespace Go.Proofs.Ytejkmomfpidnbaa
open Go.ChangeShapes Go.WideShapes Go.ChangeAt Go.RowKit
open Go.Deep
set_option linter.unusedVariables false
section
variable {H : Type} {enc : TypeId × Value → H} {w : World} {base : Nat} {spare : Nat → Bool} {held : Bool}
theorem list3o {α : Type} {l : List α} (h : l.length = 3) : ∃ a b c, l = [a, b, c] := by
  match l, h with
  | [a, b, c], _ => exact ⟨a, b, c, rfl⟩
theorem step_of_trod {n : Nat} {cs : List Value} {y : DataW H × List MemPlace} (h : DataW.trod enc Try.prog w base spare held n 121 cs = some y) : ∃ s : ST, cs = stC s ∧ True := by
  obtain ⟨hl, hF⟩ := fields_of_trod Try.underlying121 h
  obtain ⟨c0, c1, c2, rfl⟩ := list3o (hl.trans (by kernel_rfl))
  obtain ⟨a, rfl⟩ := hF.bool 0 rfl Try.underlying4 (by kernel_rfl) rfl
  obtain ⟨b, rfl, _⟩ := hF.int 1 rfl Try.underlying3 (by kernel_rfl) rfl
  obtain ⟨c, rfl, _⟩ := hF.int 2 rfl Try.underlying3 (by kernel_rfl) rfl
  exact ⟨⟨a, b, c⟩, rfl, trivial⟩
theorem step_cells : Try.prog.cellsOf 121 = 3 := by kernel_rfl
set_option maxRecDepth 100000 in
theorem steps_arg {r : Reach} {b0 : Nat} {v : Value} {d : DataW H} {p : List MemPlace} (hv : Value.okWide Try.prog w r b0 112 v) (h : DataW.Trod enc Try.prog w base spare held 112 v d p) : ∃ A n c xs, v = .slice A n c ∧ n ≤ c ∧ ElsV (fullV w) 3 stC A n xs := by
  obtain ⟨A, n, c, rfl⟩ := okWide_slice Try.underlying112 hv
  obtain ⟨fuel, x, hf⟩ := open_arg h rfl
  obtain ⟨A, n, c, xs, h1, h2, h3, h4⟩ := els_of_trod stC (fun _ => True) Try.underlying112 (by rw [step_cells]; omega) (fun m cs y _ _ hy => step_of_trod hy) hf
  rw [step_cells] at h3
  exact ⟨A, n, c, xs, h1, h2, h3⟩
end
end Go.Proofs.Ytejkmomfpidnbaa
