/- Lists of nodes, and two maps, as arguments. -/
import Derived.Test.YtejkmomfpidnbaaOpenT
import Derived.Test.YtejkmomfpidnbaaOpen3
import Derived.Test.YtejkmomfpidnbaaCopyE
namespace Go.Proofs.Ytejkmomfpidnbaa
open Go.ChangeShapes Go.WideShapes Go.ChangeAt Go.RowKit
open Go.Deep
set_option linter.unusedVariables false
section
variable {H : Type} {enc : TypeId × Value → H} {w : World} {base : Nat} {spare : Nat → Bool} {held : Bool}
set_option maxRecDepth 100000 in
theorem nodes_arg {r : Reach} {b0 : Nat} {v : Value} {d : DataW H} {p : List MemPlace} (hv : Value.okWide Try.prog w r b0 136 v) (h : DataW.Trod enc Try.prog w base spare held 136 v d p) : ∃ A n c xs, v = .slice A n c ∧ n ≤ c ∧ NodesV (fullV w) A n xs := by
  obtain ⟨A, n, c, rfl⟩ := okWide_slice Try.underlying136 hv
  obtain ⟨fuel, y, hf⟩ := open_arg h rfl
  obtain ⟨A', n', c', xs, he, hnc, hE, hg⟩ := els_of_trod lnC (fun x => NodeV (fullV w) x) Try.underlying136 (by rw [node_cells]; omega) (fun m' cs y _ hcl hy => by
    obtain ⟨x, hx, hN, _⟩ := node_of_trod m' hy
    exact ⟨x, hx, hN⟩) hf
  simp only [List.cons.injEq, Value.slice.injEq, and_true] at he
  obtain ⟨rfl, rfl, rfl⟩ := he
  rw [node_cells] at hE
  exact ⟨A, n, c, xs, rfl, hnc, hE, hg⟩
set_option maxRecDepth 100000 in
theorem maps2_of_trod {fuel : Nat} {cs : List Value} {y : DataW H × List MemPlace} (h : DataW.trod enc Try.prog w base spare held fuel 138 cs = some y) : ∃ M : LM, cs = [.slice M.A M.n M.c, .slice M.B M.m M.e] ∧ MapsV (fullV w) M := by
  obtain ⟨m, rfl, hl, hF, hat⟩ := fields_at Try.underlying138 h
  obtain ⟨c0, c1, rfl⟩ := list2 (hl.trans (by kernel_rfl))
  obtain ⟨y0, h0⟩ := hat 0 _ rfl
  obtain ⟨y1, h1⟩ := hat 1 _ rfl
  replace h0 : DataW.trod enc Try.prog w base spare held m 67 [c0] = some y0 := h0
  replace h1 : DataW.trod enc Try.prog w base spare held m 67 [c1] = some y1 := h1
  obtain ⟨A, n, c, us, rfl, k1, m1⟩ := maps_of_trod h0
  obtain ⟨B, m', e, gs, rfl, k2, m2⟩ := maps_of_trod h1
  exact ⟨⟨A, n, c, us, B, m', e, gs⟩, rfl, m1, k1, m2, k2⟩
set_option maxRecDepth 100000 in
theorem maps2_arg {r : Reach} {b0 : Nat} {v : Value} {d : DataW H} {p : List MemPlace} (hv : Value.okWide Try.prog w r b0 138 v) (h : DataW.Trod enc Try.prog w base spare held 138 v d p) : ∃ M : LM, v = lmV M ∧ MapsV (fullV w) M := by
  obtain ⟨cs, rfl, hsz⟩ := okWide_struct Try.underlying138 hv
  obtain ⟨fuel, hf⟩ := h
  obtain ⟨M, hx, hM⟩ := maps2_of_trod hf
  refine ⟨M, ?_, hM⟩
  have : cs.toList = [.slice M.A M.n M.c, .slice M.B M.m M.e] := by simpa [Value.cells] using hx
  show Value.agg cs = Value.agg [.slice M.A M.n M.c, .slice M.B M.m M.e].toArray
  rw [← this]
end
end Go.Proofs.Ytejkmomfpidnbaa
