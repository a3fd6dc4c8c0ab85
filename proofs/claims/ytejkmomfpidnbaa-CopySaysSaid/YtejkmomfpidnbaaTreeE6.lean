/- The walks of change, Put, Cut, by the engine. -/
import Derived.Test.YtejkmomfpidnbaaTreeE5
namespace Go.Proofs.Ytejkmomfpidnbaa
open Go.RowKit
set_option linter.unusedSimpArgs false
set_option linter.unusedVariables false
def midP (h : Hd) (ks : PKs) : Prop := h.attrs.length ≤ 50000 ∧ ks.length ≤ 50000
theorem mid_small {h : Hd} {ks : PKs} (k : midP h ks) : smallP h ks := ⟨by have := k.1; omega, by have := k.2; omega⟩
theorem light_mid {h : Hd} {ks : PKs} (k : lightP h ks) : midP h ks := by
  obtain ⟨h1, _, h3, _⟩ := k
  unfold lightZ at h1
  simp at h1
  exact ⟨by omega, by omega⟩
theorem edit_mem' {cut : Bool} {x : PN} {ks : PKs} {s : ByteArray} {k : ByteArray × PN} (h : k ∈ editK cut x ks s) : k ∈ ks ∨ k = (s, x) := by
  unfold editK at h
  rcases List.mem_append.1 h with h | h
  · rcases List.mem_append.1 h with h | h
    · exact .inl (List.mem_of_mem_take h)
    · split at h
      · cases h
      · exact .inr (by simpa using h)
  · exact .inl (List.mem_of_mem_drop h)
theorem edit_len {cut : Bool} {x : PN} {ks : PKs} {s : ByteArray} : (editK cut x ks s).length ≤ ks.length + 1 := by
  unfold editK
  have h1 : (if cut = true then ([] : PKs) else [(s, x)]).length ≤ 1 := by split <;> simp
  have h2 : placeN ks s ≤ (if isAt ks s = true then placeN ks s + 1 else placeN ks s) := by split <;> omega
  simp only [List.length_append, List.length_take, List.length_drop]
  omega
theorem edit_small {cut : Bool} {x : PN} {h : Hd} {ks : PKs} {s : ByteArray} (hm : AllN midP (.mk h ks)) (hx : AllN smallP x) : AllN smallP (.mk h (editK cut x ks s)) := by
  have hh := hm.here
  have hl : ks.length ≤ 50000 := hh.2
  have := edit_len (cut := cut) (x := x) (ks := ks) (s := s)
  refine .mk ⟨(mid_small hh).1, by omega⟩ fun k hk => ?_
  rcases edit_mem' hk with hk | rfl
  · exact (hm.kid hk).imp fun _ _ => mid_small
  · exact hx
def PutR (cut : Bool) (x n : PN) (l : List ByteArray) (v : Value) (V' : View) : Prop := ∃ z : LN, v = .tuple #[lnV z, errV (pF cut x n l)] ∧ NodeV V' z ∧ z.n = putP cut x n l
theorem PutR.bad {cut : Bool} {x n : PN} {l : List ByteArray} {V' : View} {e : Int} (h : pF cut x n l = e) (h0 : ¬ e = 0) : PutR cut x n l (.tuple #[lnV lnZ, errV e]) V' :=
  ⟨lnZ, by rw [h], NodeV.zero, by unfold putP; rw [h, if_neg h0]; rfl⟩
theorem PutR.good {cut : Bool} {x n : PN} {l : List ByteArray} {V' : View} {z : LN} (h : pF cut x n l = 0) (hz : NodeV V' z) (hn : z.n = pN cut x n l) : PutR cut x n l (.tuple #[lnV z, .nilIface]) V' :=
  ⟨z, by rw [h, errV_zero], hz, by unfold putP; rw [if_pos h, hn]⟩
theorem StrsV.tail {V : View} {A : Option Addr} {n c : Nat} {s : ByteArray} {l : List ByteArray} (h : StrsV V A n (s :: l)) (hc : n ≤ c) : StrsV V (cutA A c 1 1) (n - 1) l :=
  ⟨h.1.drop (k := 1) (by have := h.1.1; simp at this; omega) hc, fun t ht => h.2 t (List.mem_cons_of_mem _ ht)⟩
theorem spl_part {α : Type} {f : α → List Value} {sz : Nat} (hf : ∀ x, (f x).length = sz) {xs : List α} {rest us : List Value} {k j : Nat} {x y : α} (hx : xs[k]? = some x) (hj : j + us.length ≤ sz) (hy : spl (f x) j us = f y) : spl (xs.flatMap f ++ rest) (0 + k * sz + j) us = (xs.set k y).flatMap f ++ rest := by
  have hk := lt_of_get hx
  have e : xs = xs.take k ++ x :: xs.drop (k + 1) := by rw [← drop_get hx, List.take_append_drop]
  have hl : (xs.take k).length = k := by rw [List.length_take]; omega
  have hl2 : ((xs.take k).flatMap f).length = k * sz := by rw [flat_len f hf, hl]
  have e2 : xs.flatMap f ++ rest = (xs.take k).flatMap f ++ (f x ++ ((xs.drop (k + 1)).flatMap f ++ rest)) := by
    conv => lhs; rw [e]
    rw [List.flatMap_append, List.flatMap_cons]; simp only [List.append_assoc]
  have e3 : (xs.set k y).flatMap f ++ rest = (xs.take k).flatMap f ++ (f y ++ ((xs.drop (k + 1)).flatMap f ++ rest)) := by
    rw [List.set_eq_take_append_cons_drop, if_pos hk, List.flatMap_append, List.flatMap_cons]; simp only [List.append_assoc]
  rw [e2, e3, ← hy]
  have hfx := hf x
  rw [spl_app _ _ _ (by simp only [List.length_append, hl2, hfx]; omega), spl_app _ _ _ (by rw [hfx]; omega)]
  rw [show 0 + k * sz + j = ((xs.take k).flatMap f).length + j by rw [hl2]; omega]
  simp only [List.append_assoc]
  rw [List.take_length_add_append, show ((xs.take k).flatMap f).length + j + us.length = ((xs.take k).flatMap f).length + (j + us.length) by omega, List.drop_length_add_append, List.take_append_of_le_length (by rw [hfx]; omega), List.drop_append_of_le_length (by rw [hfx]; omega)]
  simp only [List.append_assoc]
end Go.Proofs.Ytejkmomfpidnbaa
