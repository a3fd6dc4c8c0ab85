/- Paths in plain terms. No program is named here. -/
import Derived.Test.YtejkmomfpidnbacLay
import Derived.Lib.Bytealg
namespace Go.Proofs.Ytejkmomfpidnbac
open Go.RowKit
set_option linter.unusedSimpArgs false
set_option linter.unusedVariables false
/-- What stands between slashes. -/
def parts : List UInt8 → List (List UInt8)
  | [] => [[]]
  | c :: l => if c = 47 then [] :: parts l else (match parts l with | [] => [[c]] | p :: ps => (c :: p) :: ps)
theorem parts_no : ∀ {l : List UInt8}, (∀ c ∈ l, ¬ c = 47) → parts l = [l]
  | [], _ => rfl
  | c :: l, h => by rw [parts, if_neg (h c (by simp)), parts_no fun d hd => h d (by simp [hd])]
theorem parts_at : ∀ {a b : List UInt8}, (∀ c ∈ a, ¬ c = 47) → parts (a ++ 47 :: b) = a :: parts b
  | [], b, _ => by rw [List.nil_append, parts, if_pos rfl]
  | c :: a, b, h => by rw [List.cons_append, parts, if_neg (h c (by simp)), parts_at fun d hd => h d (by simp [hd])]
theorem index_no : ∀ {l : List UInt8}, Lib.indexByte l 47 < 0 → ∀ c ∈ l, ¬ c = 47
  | [], _ => by simp
  | b :: l, h => by
    unfold Lib.indexByte at h
    split at h
    · omega
    · rename_i hb
      split at h
      · rename_i h2
        have h2 : Lib.indexByte l 47 = -1 := by simpa using h2
        intro c hc
        rcases List.mem_cons.1 hc with rfl | hc
        · simpa using hb
        · exact index_no (by omega) c hc
      · have := Lib.indexByte_ge l 47
        rename_i h2
        have h2 : ¬ Lib.indexByte l 47 = -1 := by simpa using h2
        omega
theorem index_at : ∀ {l : List UInt8}, 0 ≤ Lib.indexByte l 47 → (∀ c ∈ l.take (Lib.indexByte l 47).toNat, ¬ c = 47) ∧ l = l.take (Lib.indexByte l 47).toNat ++ 47 :: l.drop ((Lib.indexByte l 47).toNat + 1) ∧ (Lib.indexByte l 47).toNat < l.length
  | [], h => by simp [Lib.indexByte] at h
  | b :: l, h => by
    unfold Lib.indexByte at h ⊢
    by_cases hb : b = 47
    · subst hb; simp
    · have hb' : (b == 47) = false := by simpa using hb
      rw [hb'] at h ⊢
      by_cases h2 : Lib.indexByte l 47 = -1
      · rw [h2] at h; simp at h
      · have h3 : (Lib.indexByte l 47 == -1) = false := by simpa using h2
        rw [h3] at h ⊢
        simp only [Bool.false_eq_true, if_false] at h ⊢
        have h4 := Lib.indexByte_ge l 47
        have h5 : 0 ≤ Lib.indexByte l 47 := by omega
        obtain ⟨g1, g2, g3⟩ := index_at h5
        rw [show (Lib.indexByte l 47 + 1).toNat = (Lib.indexByte l 47).toNat + 1 by omega]
        refine ⟨fun c hc => ?_, ?_, by simp only [List.length_cons]; omega⟩
        · rw [List.take_succ_cons] at hc
          rcases List.mem_cons.1 hc with rfl | hc
          · exact hb
          · exact g1 c hc
        · rw [List.take_succ_cons, List.drop_succ_cons, List.cons_append, ← g2]
theorem parts_len : ∀ (l : List UInt8), (parts l).length ≤ l.length + 1
  | [] => by simp [parts]
  | c :: l => by
    have := parts_len l
    rw [parts]; split
    · simp only [List.length_cons]; omega
    · cases h : parts l with
      | nil => simp
      | cons p ps => rw [h] at this; simp only [List.length_cons] at this ⊢; omega
def allN (ps : List (List UInt8)) : Bool := ps.all nameZ
/-- What is wrong with a path; its names. -/
def pathF (l : List UInt8) : Int := if l = [47] then 0 else if l = [] ∨ ¬ l.head? = some 47 ∨ 79 < l.length then 4 else if ¬ allN (parts (l.drop 1)) = true then 4 else if 6 < (parts (l.drop 1)).length then 2 else 0
def baL (ps : List (List UInt8)) : List ByteArray := ps.map fun p => ⟨p.toArray⟩
def pathN (l : List UInt8) : List ByteArray := if pathF l = 0 ∧ ¬ l = [47] then baL (parts (l.drop 1)) else []
def namesB (xs : List ByteArray) : Bool := xs.all fun s => nameZ s.toList
def joinF (xs : List ByteArray) : Int := if ¬ namesB xs = true then 4 else if 6 < xs.length then 2 else 0
def slashL (xs : List ByteArray) : List UInt8 := xs.flatMap fun s => 47 :: s.toList
/-- Names with slashes between them. -/
def joinL : List ByteArray → List UInt8
  | [] => []
  | x :: xs => x.toList ++ slashL xs
def joinS (xs : List ByteArray) : List UInt8 := if joinF xs = 0 then 47 :: joinL xs else []
theorem slash_join {x : ByteArray} {xs : List ByteArray} : slashL (x :: xs) = 47 :: joinL (x :: xs) := by simp [slashL, joinL]
theorem slashL_app (xs ys : List ByteArray) : slashL (xs ++ ys) = slashL xs ++ slashL ys := by simp [slashL]
theorem slashL_take {xs : List ByteArray} {k : Nat} {x : ByteArray} (h : xs[k]? = some x) : slashL (xs.take (k + 1)) = slashL (xs.take k) ++ 47 :: x.toList := by
  rw [List.take_add_one, h, slashL_app]; simp [slashL]
theorem slashL_len {m : Nat} : ∀ {xs : List ByteArray}, (∀ x ∈ xs, x.size ≤ m) → (slashL xs).length ≤ xs.length * (m + 1)
  | [], _ => by simp [slashL]
  | x :: xs, h => by
    have h1 := slashL_len (xs := xs) fun y hy => h y (by simp [hy])
    have h2 := h x (by simp)
    have e : slashL (x :: xs) = (47 :: x.toList) ++ slashL xs := by simp [slashL]
    rw [e, List.length_append, List.length_cons, List.length_cons, Lib.toList_data]
    have e2 : x.data.toList.length = x.size := rfl
    rw [e2, Nat.add_mul]; omega
def underB (above l : List ByteArray) : Bool := decide (above.length ≤ l.length) && decide (above = l.take above.length)
end Go.Proofs.Ytejkmomfpidnbac
