/- Nodes as arguments. -/
import Derived.Test.YtejkmomfpidnbaaChecked
import Derived.Test.YtejkmomfpidnbaaTy
import Derived.Test.YtejkmomfpidnbaaOpen2
import Derived.Test.YtejkmomfpidnbaaTreeE
namespace Go.Proofs.Ytejkmomfpidnbaa
open Go.ChangeShapes Go.WideShapes Go.ChangeAt Go.RowKit
open Go.Deep
set_option linter.unusedVariables false
section
variable {H : Type} {enc : TypeId × Value → H} {w : World} {base : Nat} {spare : Nat → Bool} {held : Bool}
def inI (x : Int) : Prop := -9223372036854775808 ≤ x ∧ x ≤ 9223372036854775807
/-- A node's numbers are numbers of 64 bits. -/
def intsP (h : Hd) (_ : PKs) : Prop := inI h.kind ∧ inI h.mode ∧ inI h.user ∧ inI h.group
theorem fields_at {P : Program} {t : TypeId} {fs : Array Field} {fuel : Nat} {cs : List Value} {x : DataW H × List MemPlace} (hs : P.underlying t = some (.struct fs))
    (h : DataW.trod enc P w base spare held fuel t cs = some x) : ∃ n, fuel = n + 1 ∧ cs.length = P.cellsOf t ∧ FieldsRead enc P w base spare held fs cs ∧ ∀ (j : Nat) (f : Field), fs[j]? = some f → ∃ y, DataW.trod enc P w base spare held n f.type ((cs.drop f.offset).take (P.cellsOf f.type)) = some y := by
  obtain ⟨xs, n, hn, _, hl, hxl, hg⟩ := DataW.trod_struct hs h
  have key : ∀ (j : Nat) (f : Field), fs[j]? = some f → ∃ y, DataW.trod enc P w base spare held n f.type ((cs.drop f.offset).take (P.cellsOf f.type)) = some y := fun j f hj => by
    have hjl : j < xs.length := by rw [hxl]; exact (Array.getElem?_eq_some_iff.1 hj).1
    exact ⟨xs[j], (hg j f hj).trans (List.getElem?_eq_getElem hjl)⟩
  exact ⟨n, hn, hl, ⟨n, key⟩, key⟩
set_option maxRecDepth 100000 in
theorem tattr_of_trod {n : Nat} {cs : List Value} {y : DataW H × List MemPlace} (h : DataW.trod enc Try.prog w base spare held n 82 cs = some y) : ∃ a : PA, cs = paC a ∧ a.n.size ≤ maxLen ∧ a.v.size ≤ maxLen := by
  obtain ⟨hl, hF⟩ := fields_of_trod Try.underlying82 h
  match cs, hl.trans (show Try.prog.cellsOf 82 = 2 by kernel_rfl) with
  | [c0, c1], _ =>
    obtain ⟨a, rfl, wa⟩ := hF.string 0 rfl Try.underlying9 (by kernel_rfl) rfl
    obtain ⟨b, rfl, wb⟩ := hF.string 1 rfl Try.underlying9 (by kernel_rfl) rfl
    exact ⟨⟨a, b⟩, rfl, wa, wb⟩
theorem tattr_cells : Try.prog.cellsOf 82 = 2 := by kernel_rfl
theorem kid_cells : Try.prog.cellsOf 170 = 9 := by kernel_rfl
theorem node_cells : Try.prog.cellsOf 96 = 8 := by kernel_rfl
theorem list8 {α : Type} {l : List α} (h : l.length = 8) : ∃ a b c d e f g i, l = [a, b, c, d, e, f, g, i] := by
  match l, h with
  | [a, b, c, d, e, f, g, i], _ => exact ⟨a, b, c, d, e, f, g, i, rfl⟩
theorem list9 {α : Type} {l : List α} (h : l.length = 9) : ∃ a b c d e f g i j, l = [a, b, c, d, e, f, g, i, j] := by
  match l, h with
  | [a, b, c, d, e, f, g, i, j], _ => exact ⟨a, b, c, d, e, f, g, i, j, rfl⟩
theorem okWide_is_slice {r : Reach} {b0 : Nat} {P : Program} {t e : TypeId} (ht : P.underlying t = some (.slice e)) {v : Value} (hv : Value.okWide P w r b0 t v) : ∃ A n c, v = .slice A n c := okWide_slice ht hv
set_option maxRecDepth 100000 in
theorem node_of_trod : ∀ (fuel : Nat) {cs : List Value} {y : DataW H × List MemPlace}, DataW.trod enc Try.prog w base spare held fuel 96 cs = some y → ∃ x : LN, cs = lnC x ∧ NodeV (fullV w) x ∧ AllN intsP x.n := by
  intro fuel
  induction fuel using Nat.strongRecOn with
  | _ fuel ih =>
    intro cs y h
    obtain ⟨m, rfl, hl, hF, hat⟩ := fields_at Try.underlying96 h
    obtain ⟨c0, c1, c2, c3, c4, c5, c6, c7, rfl⟩ := list8 (hl.trans node_cells)
    obtain ⟨kind, rfl, w0⟩ := hF.int 0 rfl Try.underlying3 (by kernel_rfl) rfl
    obtain ⟨mode, rfl, w1⟩ := hF.int 1 rfl Try.underlying3 (by kernel_rfl) rfl
    obtain ⟨user, rfl, w2⟩ := hF.int 2 rfl Try.underlying3 (by kernel_rfl) rfl
    obtain ⟨group, rfl, w3⟩ := hF.int 3 rfl Try.underlying3 (by kernel_rfl) rfl
    obtain ⟨opq, rfl⟩ := hF.bool 4 rfl Try.underlying4 (by kernel_rfl) rfl
    obtain ⟨y5, h5⟩ := hat 5 _ rfl
    obtain ⟨data, rfl, w6⟩ := hF.string 6 rfl Try.underlying9 (by kernel_rfl) rfl
    obtain ⟨y7, h7⟩ := hat 7 _ rfl
    replace h5 : DataW.trod enc Try.prog w base spare held m 79 [c5] = some y5 := h5
    replace h7 : DataW.trod enc Try.prog w base spare held m 94 [c7] = some y7 := h7
    obtain ⟨A, na, ca, al, rfl, ga, hA, hAg⟩ := els_of_trod paC (fun a => a.n.size ≤ maxLen ∧ a.v.size ≤ maxLen) Try.underlying79 (by rw [tattr_cells]; omega) (fun m' cs y _ _ hy => tattr_of_trod hy) h5
    obtain ⟨K, nk, ck, es, rfl, gk, hK, hKg⟩ := els_of_trod lkC (fun e => e.nm.size ≤ maxLen ∧ NodeV (fullV w) e.x ∧ AllN intsP e.x.n) Try.underlying94 (by rw [kid_cells]; omega) (fun m' cs y hm' hcl hy => by
      obtain ⟨m2, rfl, hl2, hF2, hat2⟩ := fields_at Try.underlying170 hy
      obtain ⟨d0, d1, d2, d3, d4, d5, d6, d7, d8, rfl⟩ := list9 (hl2.trans kid_cells)
      obtain ⟨nm, rfl, wn⟩ := hF2.string 0 rfl Try.underlying9 (by kernel_rfl) rfl
      obtain ⟨y1, h1⟩ := hat2 1 _ rfl
      replace h1 : DataW.trod enc Try.prog w base spare held m2 96 [d1, d2, d3, d4, d5, d6, d7, d8] = some y1 := h1
      obtain ⟨x, hx, hN, hI⟩ := ih m2 (by omega) h1
      refine ⟨⟨nm, x⟩, ?_, wn, hN, hI⟩
      simp only [List.cons.injEq] at hx
      obtain ⟨rfl, rfl, rfl, rfl, rfl, rfl, rfl, rfl, _⟩ := hx
      rfl) h7
    rw [tattr_cells] at hA
    rw [kid_cells] at hK
    refine ⟨⟨⟨kind, mode, user, group, opq, al, data⟩, A, na, ca, K, nk, ck, es.map kz⟩, rfl, NodeV.of ⟨hA, hAg⟩ ga w6 gk ⟨hK, fun e he => ⟨(hKg e he).1, (hKg e he).2.1⟩⟩ rfl, .mk ⟨i64_of_wf w0, i64_of_wf w1, i64_of_wf w2, i64_of_wf w3⟩ fun k hk => ?_⟩
    obtain ⟨e, he, rfl⟩ := List.mem_map.1 hk
    exact (hKg e he).2.2
set_option maxRecDepth 100000 in
theorem node_arg {r : Reach} {b0 : Nat} {v : Value} {d : DataW H} {p : List MemPlace} (hv : Value.okWide Try.prog w r b0 96 v) (h : DataW.Trod enc Try.prog w base spare held 96 v d p) : ∃ x : LN, v = lnV x ∧ NodeV (fullV w) x ∧ AllN intsP x.n := by
  obtain ⟨cs, rfl, hsz⟩ := okWide_struct Try.underlying96 hv
  obtain ⟨fuel, hf⟩ := h
  obtain ⟨x, hx, hN, hI⟩ := node_of_trod fuel hf
  refine ⟨x, ?_, hN, hI⟩
  have : cs.toList = lnC x := by simpa [Value.cells] using hx
  show Value.agg cs = Value.agg (lnC x).toArray
  rw [← this]
set_option maxRecDepth 100000 in
theorem strs_arg {r : Reach} {b0 : Nat} {v : Value} {d : DataW H} {p : List MemPlace} (hv : Value.okWide Try.prog w r b0 97 v) (h : DataW.Trod enc Try.prog w base spare held 97 v d p) : ∃ A n c xs, v = .slice A n c ∧ n ≤ c ∧ ElsV (fullV w) 1 (fun s : ByteArray => [.string s]) A n xs ∧ ∀ s ∈ xs, s.size ≤ maxLen := by
  obtain ⟨A, n, c, rfl⟩ := okWide_slice Try.underlying97 hv
  obtain ⟨fuel, x, hf⟩ := open_arg h rfl
  exact strs_of_trod Try.underlying97 Try.underlying9 (by kernel_rfl) hf
end
end Go.Proofs.Ytejkmomfpidnbaa
