/- Attributes: what is set is what one gets, what is dropped is none, nothing else is moved. No program is named here. -/
import Derived.Test.YtejkmomfpidnbaaAttrP
namespace Go.Proofs.Ytejkmomfpidnbaa
open Go.RowKit
set_option linter.unusedSimpArgs false
set_option linter.unusedVariables false

theorem getA_mem {xs : List PA} (hp : xs.Pairwise ltA) {a : PA} (ha : a ∈ xs) : isA a.n xs ∧ getA a.n xs = a.v := by
  refine ⟨⟨a, ha, rfl⟩, ?_⟩
  obtain ⟨b, hb, hn⟩ := (isA_at hp).1 ⟨a, ha, rfl⟩
  have hbm := List.mem_of_getElem? hb
  have : b = a := by
    obtain ⟨i, hi, he⟩ := List.mem_iff_getElem.1 ha
    obtain ⟨j, hj, hf⟩ := List.mem_iff_getElem.1 hbm
    rcases Nat.lt_trichotomy i j with h | h | h
    · have := List.pairwise_iff_getElem.1 hp i j hi hj h
      rw [he, hf] at this; unfold ltA at this; rw [hn] at this; exact absurd this (lt_irr _)
    · subst h; rw [← he, ← hf]
    · have := List.pairwise_iff_getElem.1 hp j i hj hi h
      rw [he, hf] at this; unfold ltA at this; rw [hn] at this; exact absurd this (lt_irr _)
  rw [getA, hb, this]; rfl
theorem setA_mem {xs : List PA} (hp : xs.Pairwise ltA) (nm vl : ByteArray) (a : PA) : a ∈ setA xs nm vl ↔ a = ⟨nm, vl⟩ ∨ (a ∈ xs ∧ ¬ a.n = nm) := by
  obtain ⟨h1, h2⟩ := split_at nm hp
  have hlo : ∀ a ∈ xs.take (atA nm xs), ¬ a.n = nm := fun a ha e => by have := h1 a ha; rw [e] at this; exact lt_irr _ this
  have e : a ∈ xs ↔ a ∈ xs.take (atA nm xs) ∨ a ∈ xs.drop (atA nm xs) := by rw [← List.mem_append, List.take_append_drop]
  rw [e]
  unfold setA
  rcases h2 with ⟨hi, b, hd, hn, hv, hb⟩ | ⟨hi, hb⟩
  · have hhi : ∀ a ∈ xs.drop (atA nm xs + 1), ¬ a.n = nm := fun a ha e => by have := hb a ha; rw [e] at this; exact lt_irr _ this
    rw [if_pos hi, hd, List.mem_append, List.mem_cons, List.mem_cons]
    constructor
    · rintro (h | h | h)
      · exact .inr ⟨.inl h, hlo a h⟩
      · exact .inl h
      · exact .inr ⟨.inr (.inr h), hhi a h⟩
    · rintro (h | ⟨h | h | h, hne⟩)
      · exact .inr (.inl h)
      · exact .inl h
      · subst h; exact absurd hn hne
      · exact .inr (.inr h)
  · have hhi : ∀ a ∈ xs.drop (atA nm xs), ¬ a.n = nm := fun a ha e => by have := hb a ha; rw [e] at this; exact lt_irr _ this
    rw [if_neg hi, List.mem_append, List.mem_cons]
    constructor
    · rintro (h | h | h)
      · exact .inr ⟨.inl h, hlo a h⟩
      · exact .inl h
      · exact .inr ⟨.inr h, hhi a h⟩
    · rintro (h | ⟨h | h, hne⟩)
      · exact .inr (.inl h)
      · exact .inl h
      · exact .inr (.inr h)
theorem dropA_mem {xs : List PA} (hp : xs.Pairwise ltA) {nm : ByteArray} (hi : isA nm xs) (a : PA) : a ∈ dropA xs nm ↔ a ∈ xs ∧ ¬ a.n = nm := by
  obtain ⟨h1, h2⟩ := split_at nm hp
  have hlo : ∀ a ∈ xs.take (atA nm xs), ¬ a.n = nm := fun a ha e => by have := h1 a ha; rw [e] at this; exact lt_irr _ this
  have e : a ∈ xs ↔ a ∈ xs.take (atA nm xs) ∨ a ∈ xs.drop (atA nm xs) := by rw [← List.mem_append, List.take_append_drop]
  rw [e]
  unfold dropA
  rcases h2 with ⟨_, b, hd, hn, hv, hb⟩ | ⟨hi', hb⟩
  · have hhi : ∀ a ∈ xs.drop (atA nm xs + 1), ¬ a.n = nm := fun a ha e => by have := hb a ha; rw [e] at this; exact lt_irr _ this
    rw [hd, List.mem_append, List.mem_cons]
    constructor
    · rintro (h | h)
      · exact ⟨.inl h, hlo a h⟩
      · exact ⟨.inr (.inr h), hhi a h⟩
    · rintro ⟨h | h | h, hne⟩
      · exact .inl h
      · subst h; exact absurd hn hne
      · exact .inr h
  · exact absurd hi hi'
theorem setA_rises {xs : List PA} (hp : xs.Pairwise ltA) (nm vl : ByteArray) : (setA xs nm vl).Pairwise ltA := by
  obtain ⟨h1, h2⟩ := split_at nm hp
  have hj := hp
  rw [← List.take_append_drop (atA nm xs) xs, List.pairwise_append] at hj
  obtain ⟨q1, q2, q3⟩ := hj
  unfold setA
  rcases h2 with ⟨hi, b, hd, hn, hv, hb⟩ | ⟨hi, hb⟩
  · rw [hd] at q2 q3
    rw [if_pos hi, List.pairwise_append]
    refine ⟨q1, ?_, fun a ha c hc => ?_⟩
    · rw [List.pairwise_cons] at q2 ⊢
      exact ⟨fun c hc => hb c hc, q2.2⟩
    · rcases List.mem_cons.1 hc with rfl | hc
      · exact h1 a ha
      · exact q3 a ha c (by simp [hc])
  · rw [if_neg hi, List.pairwise_append]
    refine ⟨q1, ?_, fun a ha c hc => ?_⟩
    · rw [List.pairwise_cons]
      exact ⟨fun c hc => hb c hc, q2⟩
    · rcases List.mem_cons.1 hc with rfl | hc
      · exact h1 a ha
      · exact q3 a ha c hc
theorem dropA_sub (xs : List PA) (nm : ByteArray) : (dropA xs nm).Sublist xs := by
  unfold dropA
  have : (xs.drop (atA nm xs + 1)).Sublist (xs.drop (atA nm xs)) := by
    rw [← List.drop_drop]; exact List.drop_sublist _ _
  calc (xs.take (atA nm xs) ++ xs.drop (atA nm xs + 1)).Sublist (xs.take (atA nm xs) ++ xs.drop (atA nm xs)) := (List.Sublist.refl _).append this
    _ = xs := List.take_append_drop _ _
/-- A list that is right, and a name that may be: is the value there? -/
theorem getF_of {xs : List PA} (h : attrF xs = 0) {nm : ByteArray} (hc : ¬ classZ nm = 0) : (isA nm xs → getF xs nm = 0) ∧ (¬ isA nm xs → getF xs nm = 5) := by
  constructor
  · intro hi; unfold getF; rw [if_neg (by omega), if_neg hc, if_pos hi]
  · intro hi; unfold getF; rw [if_neg (by omega), if_neg hc, if_neg hi]
/-- What is behind a list that has become another one. -/
structure Kept (xs ys : List PA) (nm : ByteArray) : Prop where
  right : attrF ys = 0
  rest : ∀ a ∈ xs, ¬ a.n = nm → getF ys a.n = 0 ∧ getA a.n ys = a.v
theorem setA_kept {xs : List PA} {nm vl : ByteArray} (h : setF xs nm vl = 0) : Kept xs (setA xs nm vl) nm ∧ getF (setA xs nm vl) nm = 0 ∧ getA nm (setA xs nm vl) = vl := by
  unfold setF at h
  split at h
  · omega
  · rename_i h0
    have h0 : attrF xs = 0 := Classical.byContradiction h0
    split at h
    · omega
    · rename_i hc
      split at h
      · omega
      · rename_i hv
        split at h
        · omega
        · rename_i hl
          obtain ⟨r1, r2, r3⟩ := attrF_rises h0
          have hr := setA_rises r2 nm vl
          have hlen : (setA xs nm vl).length ≤ 4 := by
            by_cases hi : isA nm xs
            · rw [(setA_len nm vl r2).1 hi]; exact r1
            · rw [(setA_len nm vl r2).2 hi]
              have : ¬ xs.length = 4 := fun e => hl ⟨hi, e⟩
              omega
          have hok : attrF (setA xs nm vl) = 0 := attrF_of hlen hr fun a ha => by
            rcases (setA_mem r2 nm vl a).1 ha with rfl | ⟨ha, _⟩
            · exact ⟨hc, by simp only []; omega⟩
            · exact r3 a ha
          have hme := getA_mem hr ((setA_mem r2 nm vl ⟨nm, vl⟩).2 (.inl rfl))
          refine ⟨⟨hok, fun a ha hne => ?_⟩, (getF_of hok hc).1 hme.1, hme.2⟩
          have hm := getA_mem hr ((setA_mem r2 nm vl a).2 (.inr ⟨ha, hne⟩))
          exact ⟨(getF_of hok (r3 a ha).1).1 hm.1, hm.2⟩
theorem getF_zero {xs : List PA} {nm : ByteArray} (h : getF xs nm = 0) : attrF xs = 0 ∧ ¬ classZ nm = 0 ∧ isA nm xs := by
  unfold getF at h
  split at h
  · omega
  · rename_i h0
    split at h
    · omega
    · rename_i hc
      split at h
      · rename_i hi; exact ⟨Classical.byContradiction h0, hc, hi⟩
      · omega
theorem dropA_kept {xs : List PA} {nm : ByteArray} (h : getF xs nm = 0) : Kept xs (dropA xs nm) nm ∧ getF (dropA xs nm) nm = 5 := by
  obtain ⟨h0, hc, hi⟩ := getF_zero h
  obtain ⟨r1, r2, r3⟩ := attrF_rises h0
  have hsub := dropA_sub xs nm
  have hr := r2.sublist hsub
  have hok : attrF (dropA xs nm) = 0 := attrF_of (Nat.le_trans hsub.length_le r1) hr fun a ha => r3 a (hsub.subset ha)
  refine ⟨⟨hok, fun a ha hne => ?_⟩, (getF_of hok hc).2 ?_⟩
  · have hm := getA_mem hr ((dropA_mem r2 hi a).2 ⟨ha, hne⟩)
    exact ⟨(getF_of hok (r3 a ha).1).1 hm.1, hm.2⟩
  · rintro ⟨a, ha, hn⟩
    exact ((dropA_mem r2 hi a).1 ha).2 hn
end Go.Proofs.Ytejkmomfpidnbaa
