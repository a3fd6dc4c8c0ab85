/- A tree's bytes in plain terms. No program is named here. -/
import Derived.Test.YtejkmomfpidnbacTreeP
namespace Go.Proofs.Ytejkmomfpidnbac
open Go.RowKit
set_option linter.unusedSimpArgs false
set_option linter.unusedVariables false
/-- The lowest byte of a number. -/
def b8 (x : Int) : UInt8 := UInt8.ofNat (x % 256).toNat
def b16 (x : Int) : List UInt8 := [b8 (x / 256), b8 x]
/-- A text, and how many bytes it has ahead of it. -/
def layT (s : ByteArray) : List UInt8 := b8 (s.size : Int) :: s.toList
def flagN (h : Hd) : Int := if h.opq = true then h.kind + 8 else h.kind
def layH (h : Hd) : List UInt8 := b8 (flagN h) :: (b16 h.mode ++ b16 h.user ++ b16 h.group) ++ [b8 (h.attrs.length : Int)]
def layA (l : List PA) : List UInt8 := l.flatMap fun a => layT a.n ++ layT a.v
mutual
def layP : PN → List UInt8
  | .mk h ks => layH h ++ layA h.attrs ++ (layT h.data ++ [b8 (ks.length : Int)]) ++ layK ks
termination_by n => SizeOf.sizeOf n
def layK : PKs → List UInt8
  | [] => []
  | (nm, n) :: ks => layT nm ++ layP n ++ layK ks
termination_by ks => SizeOf.sizeOf ks
end
theorem layK_app : ∀ (l m : PKs), layK (l ++ m) = layK l ++ layK m
  | [], m => by simp [layK]
  | (nm, n) :: l, m => by rw [List.cons_append, layK, layK, layK_app l m]; simp
theorem layA_app (l m : List PA) : layA (l ++ m) = layA l ++ layA m := by unfold layA; simp
theorem b8_nat (x : Int) : ((b8 x).toNat : Int) = x % 256 := by
  unfold b8
  rw [UInt8.toNat_ofNat']
  have h1 : 0 ≤ x % 256 := Int.emod_nonneg _ (by omega)
  have h2 : x % 256 < 256 := Int.emod_lt_of_pos _ (by omega)
  omega
theorem layT_len (s : ByteArray) : (layT s).length = s.size + 1 := by unfold layT; rw [List.length_cons, Lib.toList_data]; rfl
theorem layH_len (h : Hd) : (layH h).length = 8 := by simp [layH, b16]
/-- What a node that is right has. -/
def fitP (h : Hd) (ks : PKs) : Prop := (1 ≤ h.kind ∧ h.kind ≤ 3) ∧ (0 ≤ h.mode ∧ h.mode ≤ 4095) ∧ (0 ≤ h.user ∧ h.user ≤ 65535) ∧ (0 ≤ h.group ∧ h.group ≤ 65535) ∧ (h.attrs.length ≤ 4 ∧ ∀ a ∈ h.attrs, a.n.size ≤ 14 ∧ a.v.size ≤ 20) ∧ h.data.size ≤ 200 ∧ ks.length ≤ 60 ∧ ∀ k ∈ ks, k.1.size ≤ 12
theorem class_len {s : ByteArray} (h : ¬ classZ s = 0) : s.size ≤ 14 := by
  unfold classZ at h
  split at h
  · rename_i h1
    have h2 := h1.2
    unfold nameZ at h2
    simp only [Bool.and_eq_true, decide_eq_true_eq] at h2
    have h3 := h2.1.1.1.2
    rw [List.length_drop, show s.toList.length = s.size by rw [Lib.toList_data]; rfl] at h3
    omega
  · exact absurd rfl h
theorem name_len {s : ByteArray} (h : nameZ s.toList = true) : s.size ≤ 12 := by
  unfold nameZ at h
  simp only [Bool.and_eq_true, decide_eq_true_eq] at h
  have h3 := h.1.1.1.2
  rw [show s.toList.length = s.size by rw [Lib.toList_data]; rfl] at h3
  exact h3
theorem layA_len {l : List PA} (h : ∀ a ∈ l, a.n.size ≤ 14 ∧ a.v.size ≤ 20) : (layA l).length ≤ 36 * l.length := by
  induction l with
  | nil => simp [layA]
  | cons a l ih =>
    have h1 := h a (by simp)
    have h2 := ih fun b hb => h b (by simp [hb])
    have e : layA (a :: l) = (layT a.n ++ layT a.v) ++ layA l := by simp [layA]
    rw [e, List.length_append, List.length_append, layT_len, layT_len, List.length_cons]; omega
theorem oneF_fit {h : Hd} {many upper root : Bool} (h0 : oneF h many upper root = 0) : (1 ≤ h.kind ∧ h.kind ≤ 3) ∧ (0 ≤ h.mode ∧ h.mode ≤ 4095) ∧ (0 ≤ h.user ∧ h.user ≤ 65535) ∧ (0 ≤ h.group ∧ h.group ≤ 65535) ∧ (h.attrs.length ≤ 4 ∧ ∀ a ∈ h.attrs, a.n.size ≤ 14 ∧ a.v.size ≤ 20) ∧ h.data.size ≤ 200 := by
  unfold oneF at h0
  split at h0
  · omega
  · rename_i h1
    split at h0
    · omega
    · rename_i h2
      split at h0
      · rename_i h3; exact absurd h0 h3
      · rename_i h3
        split at h0
        · omega
        · rename_i h4
          have h2 := Decidable.not_not.1 h2
          obtain ⟨a1, _, a3⟩ := attrF_rises (Decidable.not_not.1 h3)
          exact ⟨by omega, h2.1, h2.2.1, h2.2.2, ⟨a1, fun a ha => ⟨class_len (a3 a ha).1, (a3 a ha).2⟩⟩, by omega⟩
mutual
theorem countF_fit (upper : Bool) : ∀ (deep so : Nat) (n : PN), so ≤ 60 → (countF upper deep so n).2 = 0 → AllN fitP n ∧ so < (countF upper deep so n).1 ∧ (countF upper deep so n).1 ≤ 60 ∧ (layP n).length + 13 + 400 * so ≤ 400 * (countF upper deep so n).1
  | deep, so, .mk h ks, hs, h0 => by
    rw [countF] at h0 ⊢
    by_cases h1 : so = 60 ∨ 6 < deep
    · rw [if_pos h1] at h0; simp at h0
    · rw [if_neg h1] at h0 ⊢
      by_cases h2 : oneF h (decide (0 < ks.length)) upper (decide (deep = 0)) = 0
      · rw [if_neg (not_not_intro h2)] at h0 ⊢
        obtain ⟨b1, b2, b3, b4⟩ := countK_fit upper deep (so + 1) none ks (by omega) h0
        obtain ⟨a1, a2, a3, a4, a5, a6⟩ := oneF_fit h2
        refine ⟨.mk ⟨a1, a2, a3, a4, a5, a6, by omega, fun k hk => (b1 k hk).1⟩ fun k hk => (b1 k hk).2, by omega, b3, ?_⟩
        have := layA_len a5.2
        rw [layP]
        simp only [List.length_append, List.length_cons, List.length_nil, layT_len, layH_len]
        omega
      · rw [if_pos h2] at h0; exact absurd h0 h2
theorem countK_fit (upper : Bool) : ∀ (deep so : Nat) (prev : Option ByteArray) (ks : PKs), so ≤ 60 → (countK upper deep so prev ks).2 = 0 → (∀ k ∈ ks, k.1.size ≤ 12 ∧ AllN fitP k.2) ∧ so + ks.length ≤ (countK upper deep so prev ks).1 ∧ (countK upper deep so prev ks).1 ≤ 60 ∧ (layK ks).length + 400 * so ≤ 400 * (countK upper deep so prev ks).1
  | deep, so, prev, [], hs, h0 => by rw [countK, layK]; simp; exact hs
  | deep, so, prev, (nm, n) :: ks, hs, h0 => by
    rw [countK] at h0 ⊢
    by_cases h1 : nameZ nm.toList = true
    · rw [if_neg (not_not_intro h1)] at h0 ⊢
      split at h0
      · simp at h0
      · rename_i h2
        rw [if_neg h2]
        by_cases h3 : (countF upper (deep + 1) so n).2 = 0
        · rw [if_neg (not_not_intro h3)] at h0 ⊢
          obtain ⟨a1, a2, a3, a4⟩ := countF_fit upper (deep + 1) so n hs h3
          obtain ⟨b1, b2, b3, b4⟩ := countK_fit upper deep _ _ ks a3 h0
          have hn := name_len h1
          refine ⟨fun k hk => ?_, by simp only [List.length_cons]; omega, b3, ?_⟩
          · rcases List.mem_cons.1 hk with rfl | hk
            · exact ⟨hn, a1⟩
            · exact b1 k hk
          · rw [layK, List.length_append, List.length_append, layT_len]; omega
        · rw [if_pos h3] at h0; exact absurd h0 h3
    · rw [if_pos h1] at h0; simp at h0
end
theorem treeF_fit {upper : Bool} {n : PN} (h : treeF upper n = 0) : AllN fitP n ∧ (layP n).length ≤ 24000 := by
  unfold treeF at h
  split at h
  · omega
  · obtain ⟨h1, _, h3, h4⟩ := countF_fit upper 0 0 n (by omega) h
    exact ⟨h1, by omega⟩
theorem layA_take {l : List PA} {k : Nat} {a : PA} (h : l[k]? = some a) : layA (l.take (k + 1)) = layA (l.take k) ++ (layT a.n ++ layT a.v) := by
  rw [List.take_add_one, h, layA_app]; simp [layA]
theorem layK_take {ks : PKs} {k : Nat} {e : ByteArray × PN} (h : ks[k]? = some e) : layK (ks.take (k + 1)) = layK (ks.take k) ++ layT e.1 ++ layP e.2 := by
  obtain ⟨a, b⟩ := e
  rw [List.take_add_one, h, layK_app]; simp [layK]
theorem layA_le (l : List PA) (k : Nat) : (layA (l.take k)).length ≤ (layA l).length := by
  have := layA_app (l.take k) (l.drop k)
  rw [List.take_append_drop] at this; rw [this, List.length_append]; omega
theorem layK_le (ks : PKs) (k : Nat) : (layK (ks.take k)).length ≤ (layK ks).length := by
  have := layK_app (ks.take k) (ks.drop k)
  rw [List.take_append_drop] at this; rw [this, List.length_append]; omega
theorem layP_eq (h : Hd) (ks : PKs) : layP (.mk h ks) = layH h ++ layA h.attrs ++ (layT h.data ++ [b8 (ks.length : Int)]) ++ layK ks := by rw [layP]
end Go.Proofs.Ytejkmomfpidnbac
