/- The walks of place, Get, Set, Drop, by the engine. -/
import Derived.Test.YtejkmomfpidnbabAttrE2
namespace Go.Proofs.Ytejkmomfpidnbab
open Go.RowKit
set_option linter.unusedSimpArgs false
set_option linter.unusedVariables false
/-- Is an attribute's name below? -/
def belowA (nm : ByteArray) (xs : List PA) (i : Nat) : Bool := match xs[i]? with | some a => decide (¬ a.n.toList < nm.toList) | none => true
theorem belowA_at {nm : ByteArray} {xs : List PA} {i : Nat} {a : PA} (h : xs[i]? = some a) : belowA nm xs i = decide (¬ a.n.toList < nm.toList) := by rw [belowA, h]
theorem belowA_mono {nm : ByteArray} {xs : List PA} (hp : xs.Pairwise ltA) {i j : Nat} (hij : i ≤ j) (hj : j < xs.length) (h : belowA nm xs i = true) : belowA nm xs j = true := by
  have hi : i < xs.length := by omega
  rw [belowA_at (List.getElem?_eq_getElem hi)] at h
  rw [belowA_at (List.getElem?_eq_getElem hj)]
  rcases Nat.lt_or_ge i j with hlt | hge
  · have := List.pairwise_iff_getElem.1 hp i j hi hj hlt
    simp only [decide_eq_true_eq] at h ⊢
    intro h2
    exact h (lt_trans' this h2)
  · have : i = j := by omega
    subst this; exact h
def hasA (nm : ByteArray) (xs : List PA) : Bool := xs.any fun a => decide (a.n = nm)
theorem hasA_iff {nm : ByteArray} {xs : List PA} : hasA nm xs = true ↔ isA nm xs := by simp [hasA, isA]
theorem hasA_at {nm : ByteArray} {xs : List PA} (hp : xs.Pairwise ltA) {a : PA} (h : xs[atA nm xs]? = some a) : hasA nm xs = decide (a.n = nm) := by
  rw [Bool.eq_iff_iff, hasA_iff, isA_at hp, decide_eq_true_eq]
  constructor
  · rintro ⟨b, hb, e⟩; rw [h] at hb; injection hb with hb; subst hb; exact e
  · intro e; exact ⟨a, h, e⟩
theorem hasA_none {nm : ByteArray} {xs : List PA} (hp : xs.Pairwise ltA) (h : ¬ atA nm xs < xs.length) : hasA nm xs = false := by
  cases hb : hasA nm xs
  · rfl
  · rw [hasA_iff, isA_at hp] at hb
    obtain ⟨a, ha, _⟩ := hb
    rw [List.getElem?_eq_none (by omega)] at ha; cases ha
theorem getF_err {xs : List PA} {nm : ByteArray} (h : ¬ attrF xs = 0) : getF xs nm = attrF xs := by unfold getF; rw [if_pos h]
theorem getF_name {xs : List PA} {nm : ByteArray} (h : attrF xs = 0) (h2 : classZ nm = 0) : getF xs nm = 4 := by unfold getF; rw [if_neg (by omega), if_pos h2]
theorem getF_has {xs : List PA} {nm : ByteArray} (h : attrF xs = 0) (h2 : ¬ classZ nm = 0) : getF xs nm = if hasA nm xs = true then 0 else 5 := by
  unfold getF
  rw [if_neg (by omega), if_neg h2]
  by_cases hi : isA nm xs
  · rw [if_pos hi, if_pos (hasA_iff.2 hi)]
  · rw [if_neg hi, if_neg (fun e => hi (hasA_iff.1 e))]
theorem setF_err {xs : List PA} {nm vl : ByteArray} (h : ¬ attrF xs = 0) : setF xs nm vl = attrF xs := by unfold setF; rw [if_pos h]
theorem setF_name {xs : List PA} {nm vl : ByteArray} (h : attrF xs = 0) (h2 : classZ nm = 0) : setF xs nm vl = 4 := by unfold setF; rw [if_neg (by omega), if_pos h2]
theorem setF_big {xs : List PA} {nm vl : ByteArray} (h : attrF xs = 0) (h2 : ¬ classZ nm = 0) (h3 : 20 < vl.size) : setF xs nm vl = 1 := by unfold setF; rw [if_neg (by omega), if_neg h2, if_pos h3]
theorem setF_has {xs : List PA} {nm vl : ByteArray} (h : attrF xs = 0) (h2 : ¬ classZ nm = 0) (h3 : ¬ 20 < vl.size) : setF xs nm vl = if hasA nm xs = false ∧ xs.length = 4 then 2 else 0 := by
  unfold setF
  rw [if_neg (by omega), if_neg h2, if_neg h3]
  have e : (¬ isA nm xs) ↔ hasA nm xs = false := by rw [← hasA_iff]; simp
  by_cases hh : ¬ isA nm xs ∧ xs.length = 4
  · rw [if_pos hh, if_pos ⟨e.1 hh.1, hh.2⟩]
  · rw [if_neg hh, if_neg (fun h => hh ⟨e.2 h.1, h.2⟩)]
theorem setA_has {xs : List PA} {nm vl : ByteArray} : setA xs nm vl = xs.take (atA nm xs) ++ ⟨nm, vl⟩ :: xs.drop (if hasA nm xs = true then atA nm xs + 1 else atA nm xs) := by
  unfold setA
  by_cases hi : isA nm xs
  · rw [if_pos hi, if_pos (hasA_iff.2 hi)]
  · rw [if_neg hi, if_neg (fun e => hi (hasA_iff.1 e))]
/-- What is handed back with an error. -/
def AttrRes (f : Int) (zs : List PA) (v : Value) (V : View) : Prop :=
  (f = 0 ∧ ∃ A c, v = .tuple #[.slice A zs.length c, errV 0] ∧ AttrV V A zs.length zs ∧ zs.length ≤ c) ∨ (¬ f = 0 ∧ v = .tuple #[.slice none 0 0, errV f])
theorem attrRes_no {f : Int} {zs : List PA} {v : Value} {V : View} (h : AttrRes f zs v V) (h0 : ¬ f = 0) : v = .tuple #[.slice none 0 0, errV f] := by
  rcases h with ⟨h, _⟩ | ⟨_, h⟩
  · exact absurd h h0
  · exact h
theorem attrRes_yes {f : Int} {zs : List PA} {v : Value} {V : View} (h : AttrRes f zs v V) (h0 : f = 0) : ∃ A c, v = .tuple #[.slice A zs.length c, errV 0] ∧ AttrV V A zs.length zs ∧ zs.length ≤ c := by
  rcases h with ⟨_, h⟩ | ⟨h, _⟩
  · exact h
  · exact absurd h0 h
theorem attrRes_bad {f g : Int} {zs : List PA} {V : View} (h : f = g) (h0 : ¬ g = 0) : AttrRes f zs (.tuple #[.slice none 0 0, errV g]) V := by subst h; exact .inr ⟨h0, rfl⟩
theorem attr_of_cells {V : View} {A : Option Addr} {n : Nat} {xs : List PA} (h : CellsV V 2 A n (xs.flatMap paC)) (hl : xs.length = n) (hm : n ≤ 1000000) (hb : ∀ a ∈ xs, a.n.size ≤ maxLen ∧ a.v.size ≤ maxLen) : AttrV V A n xs :=
  ⟨ElsV.of_cells h pa_len hl (by unfold maxLen; omega), hb⟩
theorem cells_zero {V : View} {b : Nat} {v : Value} (h : CellsFrom V b 0 [v]) : V ⟨b, 0, none⟩ = some v := h 0 v rfl
theorem vle_at {V V' : View} (h : VLe V V') {p : Addr} {x : Value} (hp : V p = some x) : V' p = some x := h p x hp
attribute [local irreducible] AtQ GoC GoL GoW QO QP Fn RV OwnAt CellsFrom VLe SrcIs errV
set_option maxRecDepth 100000
end Go.Proofs.Ytejkmomfpidnbab
