/- What is said of attributes, as an argument. -/
import Derived.Test.YtejkmomfpidnbacChecked
import Derived.Test.YtejkmomfpidnbacTy
import Derived.Test.YtejkmomfpidnbacOpen2
import Derived.Test.YtejkmomfpidnbacTopAttrs
namespace Go.Proofs.Ytejkmomfpidnbac
open Go.ChangeShapes Go.WideShapes Go.ChangeAt Go.RowKit
open Go.Deep
set_option linter.unusedVariables false
section
variable {H : Type} {enc : TypeId × Value → H} {w : World} {base : Nat} {spare : Nat → Bool} {held : Bool}
theorem list3 {α : Type} {l : List α} (h : l.length = 3) : ∃ a b c, l = [a, b, c] := by
  match l, h with
  | [a, b, c], _ => exact ⟨a, b, c, rfl⟩
theorem say_of_trod {n : Nat} {cs : List Value} {y : DataW H × List MemPlace} (h : DataW.trod enc Try.prog w base spare held n 25 cs = some y) : ∃ s : PS, cs = psC s ∧ s.n.size ≤ maxLen ∧ s.v.size ≤ maxLen := by
  obtain ⟨hl, hF⟩ := fields_of_trod Try.underlying25 h
  obtain ⟨c0, c1, c2, rfl⟩ := list3 (hl.trans (by kernel_rfl))
  obtain ⟨a, rfl⟩ := hF.bool 0 rfl Try.underlying4 (by kernel_rfl) rfl
  obtain ⟨b, rfl, wb⟩ := hF.string 1 rfl Try.underlying9 (by kernel_rfl) rfl
  obtain ⟨c, rfl, wc⟩ := hF.string 2 rfl Try.underlying9 (by kernel_rfl) rfl
  exact ⟨⟨a, b, c⟩, rfl, wb, wc⟩
theorem say_cells : Try.prog.cellsOf 25 = 3 := by kernel_rfl
set_option maxRecDepth 100000 in
theorem says_arg {r : Reach} {b0 : Nat} {v : Value} {d : DataW H} {p : List MemPlace} (hv : Value.okWide Try.prog w r b0 22 v) (h : DataW.Trod enc Try.prog w base spare held 22 v d p) : ∃ A n c xs, v = .slice A n c ∧ n ≤ c ∧ SayV (fullV w) A n xs := by
  obtain ⟨A, n, c, rfl⟩ := okWide_slice Try.underlying22 hv
  obtain ⟨fuel, x, hf⟩ := open_arg h rfl
  obtain ⟨A, n, c, xs, h1, h2, h3, h4⟩ := els_of_trod psC (fun s => s.n.size ≤ maxLen ∧ s.v.size ≤ maxLen) Try.underlying22 (by rw [say_cells]; omega) (fun m cs y _ _ hy => say_of_trod hy) hf
  rw [say_cells] at h3
  exact ⟨A, n, c, xs, h1, h2, h3, h4⟩
end
end Go.Proofs.Ytejkmomfpidnbac
