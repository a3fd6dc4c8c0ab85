/- Package attr in plain terms, and that the reference's loop makes the same of a list that is right. No program is named here. -/
import Derived.Test.YtejkmomfpidnbaaCore
namespace Go.Proofs.Ytejkmomfpidnbaa
open Go.RowKit
set_option linter.unusedSimpArgs false
set_option linter.unusedVariables false

/-- An attribute: its name, its value. -/
@[ext] structure PA where
  n : ByteArray
  v : ByteArray
instance : DecidableEq PA := fun a b => decidable_of_iff (a.n = b.n ∧ a.v = b.v) ⟨fun ⟨h1, h2⟩ => PA.ext h1 h2, fun h => by subst h; exact ⟨rfl, rfl⟩⟩
abbrev paC (a : PA) : List Value := [.string a.n, .string a.v]
abbrev AttrsV (V : View) (A : Option Addr) (n : Nat) (xs : List PA) : Prop := ElsV V 2 paC A n xs
/-- Which class of name; 0: it is none. -/
def classZ (s : ByteArray) : Int :=
  if 2 ≤ s.size ∧ nameZ (s.toList.drop 2) = true then (if s.toList.take 2 = [117, 46] then 1 else if s.toList.take 2 = [116, 46] then 2 else 0) else 0
def aF (prev : Option ByteArray) : List PA → Int
  | [] => 0
  | a :: l => if classZ a.n = 0 then 4 else if 20 < a.v.size then 1 else if (∃ y, prev = some y ∧ ¬ y.toList < a.n.toList) then 3 else aF (some a.n) l
def attrF (xs : List PA) : Int := if 4 < xs.length then 2 else aF none xs
def prevA (xs : List PA) (k : Nat) : Option ByteArray := if k = 0 then none else (xs[k - 1]?).map PA.n
theorem prevA_pos {xs : List PA} {k : Nat} (h : ¬ k = 0) : prevA xs k = (xs[k - 1]?).map PA.n := if_neg h
theorem prevA_succ {xs : List PA} {k : Nat} : prevA xs (k + 1) = (xs[k]?).map PA.n := by rw [prevA, if_neg (by omega)]; rfl
theorem aF_name {p : Option ByteArray} {a : PA} {l : List PA} (h : classZ a.n = 0) : aF p (a :: l) = 4 := by rw [aF, if_pos h]
theorem aF_big {p : Option ByteArray} {a : PA} {l : List PA} (h : ¬ classZ a.n = 0) (h2 : 20 < a.v.size) : aF p (a :: l) = 1 := by rw [aF, if_neg h, if_pos h2]
theorem aF_down {y : ByteArray} {a : PA} {l : List PA} (h : ¬ classZ a.n = 0) (h2 : ¬ 20 < a.v.size) (h3 : ¬ y.toList < a.n.toList) : aF (some y) (a :: l) = 3 := by rw [aF, if_neg h, if_neg h2, if_pos ⟨y, rfl, h3⟩]
theorem aF_on {y : ByteArray} {a : PA} {l : List PA} (h : ¬ classZ a.n = 0) (h2 : ¬ 20 < a.v.size) (h3 : y.toList < a.n.toList) : aF (some y) (a :: l) = aF (some a.n) l := by
  rw [aF, if_neg h, if_neg h2, if_neg (by rintro ⟨z, hz, hl⟩; injection hz with hz; subst hz; exact hl h3)]
theorem aF_first {a : PA} {l : List PA} (h : ¬ classZ a.n = 0) (h2 : ¬ 20 < a.v.size) : aF none (a :: l) = aF (some a.n) l := by
  rw [aF, if_neg h, if_neg h2, if_neg (by rintro ⟨z, hz, hl⟩; cases hz)]
theorem aF_bd : ∀ (l : List PA) (p : Option ByteArray), 0 ≤ aF p l ∧ aF p l ≤ 4
  | [], _ => by simp [aF]
  | a :: l, p => by
    rw [aF]
    (repeat' split) <;> first | omega | exact aF_bd l _
theorem attrF_bd (xs : List PA) : 0 ≤ attrF xs ∧ attrF xs ≤ 4 := by
  unfold attrF; split
  · omega
  · exact aF_bd xs _

/-! ### A list that is right rises -/
theorem lt_trans' {a b c : List UInt8} (h : a < b) (k : b < c) : a < c := List.lt_trans h k
theorem lt_irr (a : List UInt8) : ¬ a < a := List.lt_irrefl a
theorem lt_tri (a b : ByteArray) (h : ¬ a.toList < b.toList) (h2 : ¬ a = b) : b.toList < a.toList := by
  rcases List.le_iff_lt_or_eq.1 (show b.toList ≤ a.toList from h) with h3 | h3
  · exact h3
  · exact absurd (str_ext h3.symm) h2
def ltA (a b : PA) : Prop := a.n.toList < b.n.toList
theorem aF_rises : ∀ (l : List PA) (p : Option ByteArray), aF p l = 0 → l.Pairwise ltA ∧ (∀ a ∈ l, ¬ classZ a.n = 0 ∧ a.v.size ≤ 20) ∧ ∀ y, p = some y → ∀ a ∈ l, y.toList < a.n.toList
  | [], _, _ => by simp
  | a :: l, p, h => by
    rw [aF] at h
    split at h
    · omega
    · rename_i h1
      split at h
      · omega
      · rename_i h2
        split at h
        · omega
        · rename_i h3
          obtain ⟨q1, q2, q3⟩ := aF_rises l _ h
          refine ⟨List.pairwise_cons.2 ⟨fun b hb => q3 a.n rfl b hb, q1⟩, fun b hb => ?_, fun y hy b hb => ?_⟩
          · rcases List.mem_cons.1 hb with rfl | hb
            · exact ⟨h1, by omega⟩
            · exact q2 b hb
          · have hya : y.toList < a.n.toList := by
              apply Classical.byContradiction; intro hn; exact h3 ⟨y, hy, hn⟩
            rcases List.mem_cons.1 hb with rfl | hb
            · exact hya
            · exact lt_trans' hya (q3 a.n rfl b hb)
theorem attrF_rises {xs : List PA} (h : attrF xs = 0) : xs.length ≤ 4 ∧ xs.Pairwise ltA ∧ ∀ a ∈ xs, ¬ classZ a.n = 0 ∧ a.v.size ≤ 20 := by
  unfold attrF at h
  split at h
  · omega
  · obtain ⟨a, b, _⟩ := aF_rises xs none h
    exact ⟨by omega, a, b⟩
theorem aF_of : ∀ (l : List PA) (p : Option ByteArray), l.Pairwise ltA → (∀ a ∈ l, ¬ classZ a.n = 0 ∧ a.v.size ≤ 20) → (∀ y, p = some y → ∀ a ∈ l, y.toList < a.n.toList) → aF p l = 0
  | [], _, _, _, _ => rfl
  | a :: l, p, h1, h2, h3 => by
    rw [List.pairwise_cons] at h1
    have ha := h2 a (by simp)
    rw [aF, if_neg ha.1, if_neg (by omega), if_neg (by rintro ⟨y, hy, hn⟩; exact hn (h3 y hy a (by simp)))]
    exact aF_of l _ h1.2 (fun b hb => h2 b (by simp [hb])) (fun y hy b hb => by injection hy with hy; subst hy; exact h1.1 b hb)
theorem attrF_of {xs : List PA} (h : xs.length ≤ 4) (h1 : xs.Pairwise ltA) (h2 : ∀ a ∈ xs, ¬ classZ a.n = 0 ∧ a.v.size ≤ 20) : attrF xs = 0 := by
  unfold attrF
  rw [if_neg (by omega)]
  exact aF_of xs none h1 h2 (by intro y hy; cases hy)

/-! ### Where a name is -/
/-- How many are below. -/
def atA (nm : ByteArray) : List PA → Nat
  | [] => 0
  | a :: l => if a.n.toList < nm.toList then atA nm l + 1 else 0
def isA (nm : ByteArray) (xs : List PA) : Prop := ∃ a ∈ xs, a.n = nm
theorem atA_le (nm : ByteArray) : ∀ xs : List PA, atA nm xs ≤ xs.length
  | [] => Nat.le_refl _
  | a :: l => by
    rw [atA]; split
    · have := atA_le nm l; simp; omega
    · simp
theorem atA_below {nm : ByteArray} : ∀ {xs : List PA} {j : Nat} {a : PA}, j < atA nm xs → xs[j]? = some a → a.n.toList < nm.toList
  | [], j, a, h, _ => by simp [atA] at h
  | b :: l, j, a, h, hj => by
    rw [atA] at h
    split at h
    · rename_i hb
      cases j with
      | zero => simp at hj; subst hj; exact hb
      | succ j => exact atA_below (xs := l) (j := j) (by omega) (by simpa using hj)
    · omega
theorem atA_above {nm : ByteArray} : ∀ {xs : List PA} {j : Nat} {a : PA}, xs.Pairwise ltA → atA nm xs ≤ j → xs[j]? = some a → ¬ a.n.toList < nm.toList
  | [], j, a, _, _, hj => by simp at hj
  | b :: l, j, a, hp, h, hj => by
    rw [List.pairwise_cons] at hp
    rw [atA] at h
    split at h
    · rename_i hb
      cases j with
      | zero => omega
      | succ j => exact atA_above (xs := l) (j := j) hp.2 (by omega) (by simpa using hj)
    · rename_i hb
      cases j with
      | zero => simp at hj; subst hj; exact hb
      | succ j =>
        have hm : a ∈ l := List.mem_of_getElem? (by simpa using hj)
        exact fun hlt => hb (lt_trans' (hp.1 a hm) hlt)
/-- What a search by halves finds. -/
theorem atA_of {nm : ByteArray} {xs : List PA} (hp : xs.Pairwise ltA) {k : Nat} (hk : k ≤ xs.length) (h1 : ∀ j a, j < k → xs[j]? = some a → a.n.toList < nm.toList) (h2 : ∀ j a, k ≤ j → xs[j]? = some a → ¬ a.n.toList < nm.toList) : k = atA nm xs := by
  have hle := atA_le nm xs
  rcases Nat.lt_trichotomy k (atA nm xs) with h | h | h
  · have hx : xs[k]? = some (xs[k]'(by omega)) := List.getElem?_eq_getElem (by omega)
    exact absurd (atA_below h hx) (h2 k _ (Nat.le_refl _) hx)
  · exact h
  · have hx : xs[atA nm xs]? = some (xs[atA nm xs]'(by omega)) := List.getElem?_eq_getElem (by omega)
    exact absurd (h1 _ _ h hx) (atA_above hp (Nat.le_refl _) hx)
theorem isA_at {nm : ByteArray} {xs : List PA} (hp : xs.Pairwise ltA) : isA nm xs ↔ ∃ a, xs[atA nm xs]? = some a ∧ a.n = nm := by
  constructor
  · rintro ⟨a, ha, rfl⟩
    obtain ⟨j, hj, he⟩ := List.mem_iff_getElem.1 ha
    have hx : xs[j]? = some a := by rw [List.getElem?_eq_getElem hj, he]
    have h1 : ¬ j < atA a.n xs := fun h => lt_irr _ (atA_below h hx)
    rcases Nat.lt_or_ge (atA a.n xs) j with h | h
    · have hy : xs[atA a.n xs]? = some (xs[atA a.n xs]'(by omega)) := List.getElem?_eq_getElem (by omega)
      have h3 := List.pairwise_iff_getElem.1 hp (atA a.n xs) j (by omega) hj h
      rw [he] at h3
      exact absurd h3 (atA_above hp (Nat.le_refl _) hy)
    · have : j = atA a.n xs := by omega
      exact ⟨a, this ▸ hx, rfl⟩
  · rintro ⟨a, ha, rfl⟩
    exact ⟨a, List.mem_of_getElem? ha, rfl⟩

/-! ### Get, set, drop -/
def getA (nm : ByteArray) (xs : List PA) : ByteArray := ((xs[atA nm xs]?).map PA.v).getD ⟨#[]⟩
noncomputable def getF (xs : List PA) (nm : ByteArray) : Int := open Classical in if ¬ attrF xs = 0 then attrF xs else if classZ nm = 0 then 4 else if isA nm xs then 0 else 5
noncomputable def setA (xs : List PA) (nm vl : ByteArray) : List PA := open Classical in xs.take (atA nm xs) ++ ⟨nm, vl⟩ :: xs.drop (if isA nm xs then atA nm xs + 1 else atA nm xs)
noncomputable def setF (xs : List PA) (nm vl : ByteArray) : Int := open Classical in if ¬ attrF xs = 0 then attrF xs else if classZ nm = 0 then 4 else if 20 < vl.size then 1 else if ¬ isA nm xs ∧ xs.length = 4 then 2 else 0
def dropA (xs : List PA) (nm : ByteArray) : List PA := xs.take (atA nm xs) ++ xs.drop (atA nm xs + 1)
theorem getF_bd (xs : List PA) (nm : ByteArray) : 0 ≤ getF xs nm ∧ getF xs nm ≤ 5 := by
  have := attrF_bd xs
  unfold getF; (repeat' split) <;> omega
theorem setF_bd (xs : List PA) (nm vl : ByteArray) : 0 ≤ setF xs nm vl ∧ setF xs nm vl ≤ 5 := by
  have := attrF_bd xs
  unfold setF; (repeat' split) <;> omega

/-! ### The reference's loop -/
/-- One round: how, the list so far, what was found, whether it is there, whether the new one is laid. -/
structure RS where
  out : List PA
  old : ByteArray
  there : Bool
  laid : Bool
def rStep (nm vl : ByteArray) (s : RS) (a : PA) : RS :=
  if a.n = nm then ⟨s.out, a.v, true, s.laid⟩
  else if s.laid = false ∧ nm.toList < a.n.toList then ⟨s.out ++ [⟨nm, vl⟩, a], s.old, s.there, true⟩
  else ⟨s.out ++ [a], s.old, s.there, s.laid⟩
def rRun (set : Bool) (nm vl : ByteArray) (xs : List PA) : RS :=
  let s := xs.foldl (rStep nm vl) ⟨[], ⟨#[]⟩, false, !set⟩
  if s.laid = false then ⟨s.out ++ [⟨nm, vl⟩], s.old, s.there, true⟩ else s
theorem rStep_len (nm vl : ByteArray) (s : RS) (a : PA) : (rStep nm vl s a).out.length ≤ s.out.length + 2 := by
  unfold rStep; (repeat' split) <;> simp
theorem rFold_len (nm vl : ByteArray) : ∀ (l : List PA) (s : RS), (l.foldl (rStep nm vl) s).out.length ≤ s.out.length + 2 * l.length
  | [], s => by simp
  | a :: l, s => by
    have h1 := rFold_len nm vl l (rStep nm vl s a)
    have h2 := rStep_len nm vl s a
    rw [List.foldl_cons, List.length_cons]; omega
/-- Above the name: all is taken over; the new one ahead, if it isn't laid. -/
theorem rAbove (nm vl : ByteArray) : ∀ (l : List PA) (s : RS), (∀ a ∈ l, nm.toList < a.n.toList) →
    l.foldl (rStep nm vl) s = (if s.laid = false ∧ l ≠ [] then ⟨s.out ++ ⟨nm, vl⟩ :: l, s.old, s.there, true⟩ else ⟨s.out ++ l, s.old, s.there, s.laid⟩ : RS)
  | [], s, _ => by simp
  | a :: l, s, h => by
    have ha := h a (by simp)
    have hne : ¬ a.n = nm := fun e => by rw [e] at ha; exact lt_irr _ ha
    rw [List.foldl_cons, rAbove nm vl l _ (fun b hb => h b (by simp [hb]))]
    unfold rStep
    rw [if_neg hne]
    cases hl : s.laid
    · simp [ha]
    · simp
theorem rBelow (nm vl : ByteArray) : ∀ (l : List PA) (s : RS), (∀ a ∈ l, a.n.toList < nm.toList) → l.foldl (rStep nm vl) s = ⟨s.out ++ l, s.old, s.there, s.laid⟩
  | [], s, _ => by simp
  | a :: l, s, h => by
    have ha := h a (by simp)
    have hne : ¬ a.n = nm := fun e => by rw [e] at ha; exact lt_irr _ ha
    have hn : ¬ nm.toList < a.n.toList := fun k => lt_irr _ (lt_trans' ha k)
    rw [List.foldl_cons, rBelow nm vl l _ (fun b hb => h b (by simp [hb]))]
    unfold rStep
    rw [if_neg hne, if_neg (by simp [hn])]
    simp
theorem split_at (nm : ByteArray) {xs : List PA} (hp : xs.Pairwise ltA) : (∀ a ∈ xs.take (atA nm xs), a.n.toList < nm.toList) ∧ ((isA nm xs ∧ ∃ a, xs.drop (atA nm xs) = a :: xs.drop (atA nm xs + 1) ∧ a.n = nm ∧ getA nm xs = a.v ∧ ∀ b ∈ xs.drop (atA nm xs + 1), nm.toList < b.n.toList) ∨ (¬ isA nm xs ∧ ∀ b ∈ xs.drop (atA nm xs), nm.toList < b.n.toList)) := by
  refine ⟨fun a ha => ?_, ?_⟩
  · obtain ⟨j, hj, rfl⟩ := List.mem_iff_getElem.1 ha
    rw [List.length_take] at hj
    rw [List.getElem_take]
    exact atA_below (xs := xs) (j := j) (by omega) (List.getElem?_eq_getElem (by omega))
  · by_cases hi : isA nm xs
    · refine .inl ⟨hi, ?_⟩
      obtain ⟨a, ha, hn⟩ := (isA_at hp).1 hi
      have hd : xs.drop (atA nm xs) = a :: xs.drop (atA nm xs + 1) := drop_at ha
      refine ⟨a, hd, hn, by simp [getA, ha], fun b hb => ?_⟩
      have := hp.sublist (List.drop_sublist (atA nm xs) xs)
      rw [hd, List.pairwise_cons] at this
      have := this.1 b hb
      unfold ltA at this; rw [hn] at this; exact this
    · refine .inr ⟨hi, fun b hb => ?_⟩
      obtain ⟨j, hj, rfl⟩ := List.mem_iff_getElem.1 hb
      rw [List.length_drop] at hj
      rw [List.getElem_drop]
      have hx : xs[atA nm xs + j]? = some (xs[atA nm xs + j]'(by omega)) := List.getElem?_eq_getElem (by omega)
      refine lt_tri _ _ (atA_above hp (by omega) hx) fun e => hi ⟨_, List.mem_of_getElem? hx, e⟩
/-- What the reference makes of a list that is right. -/
theorem rRun_get (nm vl : ByteArray) {xs : List PA} (hp : xs.Pairwise ltA) : (rRun false nm vl xs).there = true ↔ isA nm xs := by
  obtain ⟨h1, h2⟩ := split_at nm hp
  have e := List.take_append_drop (atA nm xs) xs
  unfold rRun
  rw [← e, List.foldl_append, rBelow nm vl _ _ h1, e]
  rcases h2 with ⟨hi, a, hd, hn, hv, hb⟩ | ⟨hi, hb⟩
  · rw [hd, List.foldl_cons, rAbove nm vl _ _ hb]
    simp [rStep, hn, hi]
  · rw [rAbove nm vl _ _ hb]
    simp [hi]
theorem rRun_old (nm vl : ByteArray) {xs : List PA} (hp : xs.Pairwise ltA) (hi : isA nm xs) : (rRun false nm vl xs).old = getA nm xs ∧ (rRun false nm vl xs).out = dropA xs nm := by
  obtain ⟨h1, h2⟩ := split_at nm hp
  have e := List.take_append_drop (atA nm xs) xs
  unfold rRun
  rcases h2 with ⟨_, a, hd, hn, hv, hb⟩ | ⟨hi', hb⟩
  · have : xs.foldl (rStep nm vl) ⟨[], ⟨#[]⟩, false, !false⟩ = ⟨xs.take (atA nm xs) ++ xs.drop (atA nm xs + 1), a.v, true, true⟩ := by
      conv => lhs; rw [← e]
      rw [List.foldl_append, rBelow nm vl _ _ h1, hd, List.foldl_cons, rAbove nm vl _ _ hb]
      simp [rStep, hn]
    rw [this]
    simp [hv, dropA]
  · exact absurd hi hi'
theorem rRun_set (nm vl : ByteArray) {xs : List PA} (hp : xs.Pairwise ltA) : (rRun true nm vl xs).out = setA xs nm vl := by
  obtain ⟨h1, h2⟩ := split_at nm hp
  have e := List.take_append_drop (atA nm xs) xs
  unfold rRun setA
  rcases h2 with ⟨hi, a, hd, hn, hv, hb⟩ | ⟨hi, hb⟩
  · have : xs.foldl (rStep nm vl) ⟨[], ⟨#[]⟩, false, !true⟩ = if xs.drop (atA nm xs + 1) = [] then ⟨xs.take (atA nm xs), a.v, true, false⟩ else ⟨xs.take (atA nm xs) ++ ⟨nm, vl⟩ :: xs.drop (atA nm xs + 1), a.v, true, true⟩ := by
      conv => lhs; rw [← e]
      rw [List.foldl_append, rBelow nm vl _ _ h1, hd, List.foldl_cons, rAbove nm vl _ _ hb]
      simp only [rStep, hn, if_true]
      by_cases hz : xs.drop (atA nm xs + 1) = []
      · simp [hz]
      · simp [hz]
    rw [this, if_pos hi]
    by_cases hz : xs.drop (atA nm xs + 1) = []
    · simp [hz]
    · simp [hz]
  · have : xs.foldl (rStep nm vl) ⟨[], ⟨#[]⟩, false, !true⟩ = if xs.drop (atA nm xs) = [] then ⟨xs.take (atA nm xs), ⟨#[]⟩, false, false⟩ else ⟨xs.take (atA nm xs) ++ ⟨nm, vl⟩ :: xs.drop (atA nm xs), ⟨#[]⟩, false, true⟩ := by
      conv => lhs; rw [← e]
      rw [List.foldl_append, rBelow nm vl _ _ h1, rAbove nm vl _ _ hb]
      by_cases hz : xs.drop (atA nm xs) = []
      · simp [hz]
      · simp [hz]
    rw [this, if_neg hi]
    by_cases hz : xs.drop (atA nm xs) = []
    · simp [hz]
    · simp [hz]
theorem setA_len (nm vl : ByteArray) {xs : List PA} (hp : xs.Pairwise ltA) : (isA nm xs → (setA xs nm vl).length = xs.length) ∧ (¬ isA nm xs → (setA xs nm vl).length = xs.length + 1) := by
  have hle := atA_le nm xs
  constructor
  · intro hi
    obtain ⟨a, ha, _⟩ := (isA_at hp).1 hi
    have : atA nm xs < xs.length := by
      rcases Nat.lt_or_ge (atA nm xs) xs.length with h | h
      · exact h
      · rw [List.getElem?_eq_none h] at ha; cases ha
    unfold setA; rw [if_pos hi]; simp; omega
  · intro hi; unfold setA; rw [if_neg hi]; simp; omega
end Go.Proofs.Ytejkmomfpidnbaa
