/- Slices of elements of any kind, as a view knows them. No program is named here. -/
import Derived.Test.YtejkmomfpidnbaaRow
namespace Go.Proofs.Ytejkmomfpidnbaa
open Go.RowKit
set_option linter.unusedSimpArgs false
set_option linter.unusedVariables false

/-- The elements of a slice are the list xs, each sz cells as f says. -/
def ElsV {α : Type} (V : View) (sz : Nat) (f : α → List Value) (A : Option Addr) (n : Nat) (xs : List α) : Prop :=
  xs.length = n ∧ n ≤ maxLen ∧ (0 < n → ∃ b off, A = some ⟨b, off, none⟩ ∧ ∀ k x, xs[k]? = some x → CellsFrom V b (off + k * sz) (f x))
section
variable {α : Type} {V V' : View} {sz n : Nat} {f : α → List Value} {A : Option Addr} {xs : List α}
theorem ElsV.le (h : ElsV V sz f A n xs) (hv : VLe V V') : ElsV V' sz f A n xs := ⟨h.1, h.2.1, fun hn => let ⟨b, off, ha, hc⟩ := h.2.2 hn; ⟨b, off, ha, fun k x hk => (hc k x hk).le hv⟩⟩
theorem ElsV.nil : ElsV V sz f A 0 [] := ⟨rfl, Nat.zero_le _, fun h => absurd h (by omega)⟩
theorem ElsV.max (h : ElsV V sz f A n xs) : n ≤ 9223372036854775807 := by
  have := h.2.1; unfold maxLen at this; omega
theorem ElsV.at_ (h : ElsV V sz f A n xs) {k : Nat} (hk : k < n) : ∃ b off x, A = some ⟨b, off, none⟩ ∧ xs[k]? = some x ∧ CellsFrom V b (off + k * sz) (f x) := by
  obtain ⟨h1, _, h3⟩ := h
  obtain ⟨b, off, ha, hc⟩ := h3 (by omega)
  have hx : xs[k]? = some (xs[k]'(by omega)) := List.getElem?_eq_getElem (by omega)
  exact ⟨b, off, _, ha, hx, hc k _ hx⟩
theorem flat_at (f : α → List Value) (hf : ∀ x, (f x).length = sz) : ∀ (xs : List α) (k j : Nat) (x : α) (v : Value), xs[k]? = some x → (f x)[j]? = some v → (xs.flatMap f)[k * sz + j]? = some v
  | [], _, _, _, _, h, _ => by simp at h
  | y :: xs, 0, j, x, v, h, hv => by
    simp at h; subst h
    have hj : j < (f y).length := by
      rcases Nat.lt_or_ge j (f y).length with h | h
      · exact h
      · rw [List.getElem?_eq_none h] at hv; cases hv
    rw [List.flatMap_cons, Nat.zero_mul, Nat.zero_add, List.getElem?_append_left hj]; exact hv
  | y :: xs, k + 1, j, x, v, h, hv => by
    have := flat_at f hf xs k j x v (by simpa using h) hv
    rw [List.flatMap_cons, List.getElem?_append_right (by rw [hf]; rw [Nat.succ_mul]; omega), hf, show (k + 1) * sz + j - sz = k * sz + j by rw [Nat.succ_mul]; omega]
    exact this
theorem flat_len (f : α → List Value) (hf : ∀ x, (f x).length = sz) (xs : List α) : (xs.flatMap f).length = xs.length * sz := by
  induction xs with
  | nil => simp
  | cons y xs ih => rw [List.flatMap_cons, List.length_append, hf, ih, List.length_cons, Nat.succ_mul]; omega
theorem flat_inv (f : α → List Value) (hf : ∀ x, (f x).length = sz) : ∀ (xs : List α) (i : Nat) (v : Value), (xs.flatMap f)[i]? = some v → ∃ k j x, i = k * sz + j ∧ xs[k]? = some x ∧ (f x)[j]? = some v
  | [], i, v, h => by simp at h
  | y :: xs, i, v, h => by
    rw [List.flatMap_cons] at h
    rcases Nat.lt_or_ge i sz with hi | hi
    · rw [List.getElem?_append_left (by rw [hf]; exact hi)] at h
      exact ⟨0, i, y, by omega, rfl, h⟩
    · rw [List.getElem?_append_right (by rw [hf]; exact hi), hf] at h
      obtain ⟨k, j, x, h1, h2, h3⟩ := flat_inv f hf xs (i - sz) v h
      exact ⟨k + 1, j, x, by rw [Nat.succ_mul]; omega, by simpa using h2, h3⟩
theorem ElsV.cells (h : ElsV V sz f A n xs) (hf : ∀ x, (f x).length = sz) : CellsV V sz A n (xs.flatMap f) := by
  obtain ⟨h1, _, h3⟩ := h
  refine ⟨by rw [flat_len f hf, h1], fun hn => ?_⟩
  obtain ⟨b, off, ha, hc⟩ := h3 hn
  refine ⟨b, off, ha, fun i v hi => ?_⟩
  obtain ⟨k, j, x, rfl, hx, hv⟩ := flat_inv f hf xs i v hi
  have := hc k x hx j v hv
  rw [show off + (k * sz + j) = off + k * sz + j by omega]; exact this
theorem ElsV.of_cells (h : CellsV V sz A n (xs.flatMap f)) (hf : ∀ x, (f x).length = sz) (hl : xs.length = n) (hm : n ≤ maxLen) : ElsV V sz f A n xs := by
  refine ⟨hl, hm, fun hn => ?_⟩
  obtain ⟨b, off, ha, hc⟩ := h.2 hn
  refine ⟨b, off, ha, fun k x hx j v hv => ?_⟩
  have := hc (k * sz + j) v (flat_at f hf xs k j x v hx hv)
  rw [show off + k * sz + j = off + (k * sz + j) by omega]; exact this
/-- x[:h] and x[l:]. -/
theorem ElsV.take (h : ElsV V sz f A n xs) {k : Nat} (hk : k ≤ n) : ElsV V sz f A k (xs.take k) := by
  refine ⟨by rw [List.length_take, h.1]; omega, Nat.le_trans hk h.2.1, fun hn => ?_⟩
  obtain ⟨b, off, ha, hc⟩ := h.2.2 (by omega)
  refine ⟨b, off, ha, fun j x hj => hc j x ?_⟩
  rw [List.getElem?_take] at hj
  split at hj
  · exact hj
  · cases hj
theorem ElsV.drop (h : ElsV V sz f A n xs) {k c : Nat} (hk : k ≤ n) (hc' : n ≤ c) : ElsV V sz f (cutA A c k sz) (n - k) (xs.drop k) := by
  refine ⟨by rw [List.length_drop, h.1], Nat.le_trans (Nat.sub_le _ _) h.2.1, fun hn => ?_⟩
  obtain ⟨b, off, ha, hc⟩ := h.2.2 (by omega)
  refine ⟨b, off + k * sz, ?_, fun j x hj => ?_⟩
  · unfold cutA
    rw [if_neg (by omega), ha]
    simp [add_none]
  · rw [List.getElem?_drop] at hj
    have := hc (k + j) x hj
    rw [show off + k * sz + j * sz = off + (k + j) * sz by rw [Nat.add_mul]; omega]; exact this
theorem RowL.cap {A : Option Addr} {n c E sz : Nat} {xs : List Value} {L1 : List Box} (h : RowL A n c E sz xs L1) : n ≤ c := by
  rcases h.2 with ⟨_, _, rfl, _⟩ | ⟨_, _, _, _, h, _⟩
  · omega
  · exact h
theorem map_flat {α : Type} (g : α → Value) : ∀ xs : List α, xs.map g = xs.flatMap (fun z => [g z])
  | [] => rfl
  | x :: xs => by rw [List.map_cons, List.flatMap_cons, map_flat g xs]; rfl
theorem IntsV.els {xs : List Int} (h : IntsV V A n xs) : ElsV V 1 (fun z => [.int .i64 z]) A n xs := by
  refine ElsV.of_cells (by
    have := h.2.2
    rw [map_flat (Value.int .i64) xs] at this
    exact this) (fun _ => rfl) h.1 h.2.1
end
end Go.Proofs.Ytejkmomfpidnbaa
