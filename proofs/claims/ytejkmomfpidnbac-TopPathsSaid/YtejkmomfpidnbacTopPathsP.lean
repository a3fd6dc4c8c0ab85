/- Paths and names: one leads to the other. No program is named here. -/
import Derived.Test.YtejkmomfpidnbacPathE4
namespace Go.Proofs.Ytejkmomfpidnbac
open Go.RowKit
set_option linter.unusedSimpArgs false
set_option linter.unusedVariables false
theorem parts_ne : ∀ l : List UInt8, ¬ parts l = []
  | [] => by simp [parts]
  | c :: l => by
    rw [parts]; split
    · simp
    · split <;> simp
theorem parts_join : ∀ {xs : List ByteArray} {p : List UInt8}, (∀ c ∈ p, ¬ c = 47) → (∀ x ∈ xs, ∀ c ∈ x.toList, ¬ c = 47) → parts (p ++ slashL xs) = p :: xs.map ByteArray.toList
  | [], p, hp, _ => by simp only [slashL, List.flatMap_nil, List.append_nil, List.map_nil]; exact parts_no hp
  | x :: xs, p, hp, h => by
    have e : slashL (x :: xs) = 47 :: (x.toList ++ slashL xs) := by simp [slashL]
    rw [e, parts_at hp, parts_join (h x (by simp)) fun y hy => h y (by simp [hy])]; rfl
theorem baL_map (xs : List ByteArray) : baL (xs.map ByteArray.toList) = xs := by
  unfold baL; rw [List.map_map]
  conv => rhs; rw [← List.map_id xs]
  exact List.map_congr_left fun x _ => (ba_is x).symm
theorem joinL_cons {x : ByteArray} {xs : List ByteArray} : joinL (x :: xs) = x.toList ++ slashL xs := rfl
theorem join_parts : ∀ r : List UInt8, joinL (baL (parts r)) = r
  | [] => by decide +kernel
  | c :: r => by
    have ih := join_parts r
    have hne := parts_ne r
    rw [parts]
    by_cases h : c = 47
    · rw [if_pos h]
      cases hp : parts r with
      | nil => exact absurd hp hne
      | cons p ps =>
        rw [hp] at ih
        have e : baL ([] :: p :: ps) = ⟨#[]⟩ :: baL (p :: ps) := rfl
        rw [e, joinL_cons, show baL (p :: ps) = ⟨p.toArray⟩ :: baL ps from rfl, slash_join, show (⟨p.toArray⟩ : ByteArray) :: baL ps = baL (p :: ps) from rfl, ih, h, Lib.toList_data]; rfl
    · rw [if_neg h]
      cases hp : parts r with
      | nil => exact absurd hp hne
      | cons p ps =>
        rw [hp] at ih
        rw [show baL (p :: ps) = ⟨p.toArray⟩ :: baL ps from rfl, joinL_cons, ba_of] at ih
        show joinL (baL ((c :: p) :: ps)) = c :: r
        rw [show baL ((c :: p) :: ps) = ⟨(c :: p).toArray⟩ :: baL ps from rfl, joinL_cons, ba_of, List.cons_append, ih]
theorem namesB_baL (ps : List (List UInt8)) : namesB (baL ps) = allN ps := by
  unfold namesB allN baL
  rw [List.all_map]
  congr 1; funext p; simp only [Function.comp, ba_of]
theorem joinF_zero {xs : List ByteArray} (h : joinF xs = 0) : namesB xs = true ∧ xs.length ≤ 6 := by
  unfold joinF at h
  by_cases h1 : namesB xs = true
  · rw [if_neg (not_not_intro h1)] at h
    by_cases h2 : 6 < xs.length
    · rw [if_pos h2] at h; omega
    · exact ⟨h1, by omega⟩
  · rw [if_pos h1] at h; omega
theorem split_join {xs : List ByteArray} (h : joinF xs = 0) : pathF (joinS xs) = 0 ∧ pathN (joinS xs) = xs := by
  obtain ⟨h1, h2⟩ := joinF_zero h
  rw [joinS_ok h]
  cases xs with
  | nil => exact ⟨pathF_root, pathN_root⟩
  | cons x xs =>
    have hn := List.all_eq_true.1 h1
    have hx := hn x (by simp)
    have hxz := ((nameZ_iff x).1 hx).1
    have hne : ¬ joinL (x :: xs) = [] := fun e => by
      have := congrArg List.length e
      rw [joinL_cons, List.length_append, Lib.toList_data] at this
      have e2 : x.data.toList.length = x.size := rfl
      simp only [List.length_nil, e2] at this; omega
    have hl := slashL_len (m := 12) (names_size h1)
    have hm := Nat.mul_le_mul_right (12 + 1) h2
    rw [slash_join, List.length_cons] at hl
    have hp : parts (joinL (x :: xs)) = (x :: xs).map ByteArray.toList := parts_join (slash_no hx) fun y hy => slash_no (hn y (by simp [hy]))
    have ha : allN (parts (joinL (x :: xs))) = true := by rw [hp, ← namesB_baL, baL_map]; exact h1
    have h6 : ¬ 6 < (parts (joinL (x :: xs))).length := by rw [hp, List.length_map]; omega
    have hF := pathF_ok hne (by omega) ha h6
    exact ⟨hF, by rw [pathN_ok hne hF, hp, baL_map]⟩
theorem join_split {l : List UInt8} (h : pathF l = 0) : joinF (pathN l) = 0 ∧ joinS (pathN l) = l := by
  by_cases hr : l = [47]
  · subst hr; rw [pathN_root]; exact ⟨rfl, rfl⟩
  · have h0 := h
    unfold pathF at h
    rw [if_neg hr] at h
    by_cases h1 : l = [] ∨ ¬ l.head? = some 47 ∨ 79 < l.length
    · rw [if_pos h1] at h; omega
    · rw [if_neg h1] at h
      by_cases h2 : ¬ allN (parts (l.drop 1)) = true
      · rw [if_pos h2] at h; omega
      · rw [if_neg h2] at h
        by_cases h3 : 6 < (parts (l.drop 1)).length
        · rw [if_pos h3] at h; omega
        · obtain ⟨r, rfl⟩ : ∃ r, l = 47 :: r := by
            cases l with
            | nil => exact absurd (.inl rfl) h1
            | cons a r =>
              refine ⟨r, ?_⟩
              by_cases ha : a = 47
              · rw [ha]
              · exact absurd (.inr (.inl (by simpa using ha))) h1
          have hr0 : ¬ r = [] := fun e => hr (by rw [e])
          replace h2 : allN (parts r) = true := Decidable.not_not.1 h2
          replace h3 : ¬ 6 < (parts r).length := h3
          rw [pathN_ok hr0 h0]
          have hJ : joinF (baL (parts r)) = 0 := joinF_ok (by rw [namesB_baL]; exact h2) (by unfold baL; rw [List.length_map]; exact h3)
          exact ⟨hJ, by rw [joinS_ok hJ, join_parts]⟩
theorem under_take {xs : List ByteArray} {i : Nat} : underB (xs.take i) xs = true := by
  refine underB_yes (by rw [List.length_take]; omega) ?_
  rw [List.length_take]
  rcases Nat.le_total i xs.length with h | h
  · rw [Nat.min_eq_left h]
  · rw [Nat.min_eq_right h, List.take_of_length_le h, List.take_of_length_le (Nat.le_refl _)]
theorem under_less {xs : List ByteArray} {i : Nat} (h : i < xs.length) : underB xs (xs.take i) = false := underB_no (by rw [List.length_take]; omega)
end Go.Proofs.Ytejkmomfpidnbac
