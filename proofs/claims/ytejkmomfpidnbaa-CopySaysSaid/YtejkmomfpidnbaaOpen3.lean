/- Arguments of this program's types opened. -/
import Derived.Test.YtejkmomfpidnbaaChecked
import Derived.Test.YtejkmomfpidnbaaTy
import Derived.Test.YtejkmomfpidnbaaOpen2
import Derived.Test.YtejkmomfpidnbaaIdmapE
import Derived.Test.YtejkmomfpidnbaaAttrP
namespace Go.Proofs.Ytejkmomfpidnbaa
open Go.ChangeShapes Go.WideShapes Go.ChangeAt Go.RowKit
open Go.Deep
set_option linter.unusedVariables false
section
variable {H : Type} {enc : TypeId × Value → H} {w : World} {base : Nat} {spare : Nat → Bool} {held : Bool}
theorem list3 {α : Type} {l : List α} (h : l.length = 3) : ∃ a b c, l = [a, b, c] := by
  match l, h with
  | [a, b, c], _ => exact ⟨a, b, c, rfl⟩
theorem list2 {α : Type} {l : List α} (h : l.length = 2) : ∃ a b, l = [a, b] := by
  match l, h with
  | [a, b], _ => exact ⟨a, b, rfl⟩
theorem string_arg {P : Program} {r : Reach} {b0 : Nat} {t : TypeId} {v : Value} {d : DataW H} {p : List MemPlace} (ht : P.underlying t = some .string) (hv : Value.okWide P w r b0 t v) (h : DataW.Trod enc P w base spare held t v d p) : ∃ s, v = .string s ∧ s.size ≤ maxLen := by
  obtain ⟨s, rfl⟩ := okWide_string ht hv
  obtain ⟨fuel, x, hf⟩ := open_arg h rfl
  obtain ⟨s', he, hx⟩ := DataW.trod_string ht hf
  have : s = s' := by simpa using he
  subst this
  exact ⟨s, rfl, by simpa using hx.2⟩
theorem range_of_trod {n : Nat} {cs : List Value} {y : DataW H × List MemPlace} (h : DataW.trod enc Try.prog w base spare held n 161 cs = some y) : ∃ r : PR, cs = prC r ∧ inR64 r := by
  obtain ⟨hl, hF⟩ := fields_of_trod Try.underlying161 h
  obtain ⟨c0, c1, c2, rfl⟩ := list3 (hl.trans (by kernel_rfl))
  obtain ⟨a, rfl, wa⟩ := hF.int 0 rfl Try.underlying3 (by kernel_rfl) rfl
  obtain ⟨b, rfl, wb⟩ := hF.int 1 rfl Try.underlying3 (by kernel_rfl) rfl
  obtain ⟨c, rfl, wc⟩ := hF.int 2 rfl Try.underlying3 (by kernel_rfl) rfl
  exact ⟨⟨a, b, c⟩, rfl, i64_of_wf wa, i64_of_wf wb, i64_of_wf wc⟩
theorem attr_of_trod {n : Nat} {cs : List Value} {y : DataW H × List MemPlace} (h : DataW.trod enc Try.prog w base spare held n 82 cs = some y) : ∃ a : PA, cs = paC a ∧ a.n.size ≤ maxLen ∧ a.v.size ≤ maxLen := by
  obtain ⟨hl, hF⟩ := fields_of_trod Try.underlying82 h
  obtain ⟨c0, c1, rfl⟩ := list2 (hl.trans (by kernel_rfl))
  obtain ⟨a, rfl, wa⟩ := hF.string 0 rfl Try.underlying9 (by kernel_rfl) rfl
  obtain ⟨b, rfl, wb⟩ := hF.string 1 rfl Try.underlying9 (by kernel_rfl) rfl
  exact ⟨⟨a, b⟩, rfl, wa, wb⟩
theorem range_cells : Try.prog.cellsOf 161 = 3 := by kernel_rfl
theorem attr_cells : Try.prog.cellsOf 82 = 2 := by kernel_rfl
theorem string_cells : Try.prog.cellsOf 9 = 1 := by kernel_rfl
theorem maps_of_trod {fuel : Nat} {v : Value} {x : DataW H × List MemPlace} (h : DataW.trod enc Try.prog w base spare held fuel 67 [v] = some x) : ∃ A n c xs, v = .slice A n c ∧ n ≤ c ∧ MapV (fullV w) A n xs := by
  obtain ⟨A, n, c, xs, h1, h2, h3, h4⟩ := els_of_trod prC inR64 Try.underlying67 (by rw [range_cells]; omega) (fun m cs y _ _ hy => range_of_trod hy) h
  rw [range_cells] at h3
  exact ⟨A, n, c, xs, h1, h2, h3, h4⟩
set_option maxRecDepth 100000 in
theorem maps_arg {r : Reach} {b0 : Nat} {v : Value} {d : DataW H} {p : List MemPlace} (hv : Value.okWide Try.prog w r b0 67 v) (h : DataW.Trod enc Try.prog w base spare held 67 v d p) : ∃ A n c xs, v = .slice A n c ∧ n ≤ c ∧ MapV (fullV w) A n xs := by
  obtain ⟨A, n, c, rfl⟩ := okWide_slice Try.underlying67 hv
  obtain ⟨fuel, x, hf⟩ := open_arg h rfl
  exact maps_of_trod hf
theorem attrs_of_trod {fuel : Nat} {v : Value} {x : DataW H × List MemPlace} (h : DataW.trod enc Try.prog w base spare held fuel 79 [v] = some x) : ∃ A n c xs, v = .slice A n c ∧ n ≤ c ∧ AttrsV (fullV w) A n xs ∧ ∀ a ∈ xs, a.n.size ≤ maxLen ∧ a.v.size ≤ maxLen := by
  obtain ⟨A, n, c, xs, h1, h2, h3, h4⟩ := els_of_trod paC (fun a => a.n.size ≤ maxLen ∧ a.v.size ≤ maxLen) Try.underlying79 (by rw [attr_cells]; omega) (fun m cs y _ _ hy => attr_of_trod hy) h
  rw [attr_cells] at h3
  exact ⟨A, n, c, xs, h1, h2, h3, h4⟩
set_option maxRecDepth 100000 in
theorem attrs_arg {r : Reach} {b0 : Nat} {v : Value} {d : DataW H} {p : List MemPlace} (hv : Value.okWide Try.prog w r b0 79 v) (h : DataW.Trod enc Try.prog w base spare held 79 v d p) : ∃ A n c xs, v = .slice A n c ∧ n ≤ c ∧ AttrsV (fullV w) A n xs ∧ ∀ a ∈ xs, a.n.size ≤ maxLen ∧ a.v.size ≤ maxLen := by
  obtain ⟨A, n, c, rfl⟩ := okWide_slice Try.underlying79 hv
  obtain ⟨fuel, x, hf⟩ := open_arg h rfl
  exact attrs_of_trod hf
end
end Go.Proofs.Ytejkmomfpidnbaa
