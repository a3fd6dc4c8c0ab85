/- Pools in plain terms. No program is named here. -/
import Derived.Test.YtejkmomfpidnbaaMap
namespace Go.Proofs.Ytejkmomfpidnbaa
open Go.RowKit
set_option linter.unusedSimpArgs false
set_option linter.unusedVariables false
/-- Who has how many, in the order in which they took. -/
abbrev PM := List (Int × Int)
def sumP : PM → Int
  | [] => 0
  | p :: M => p.2 + sumP M
def takeF (room : Int) (M : PM) (who n : Int) : Int := if n < 0 then 1 else if (mFind who M).isSome = true then 6 else if room - sumP M < n then 13 else 0
def takeM (room : Int) (M : PM) (who n : Int) : PM := if takeF room M who n = 0 then M ++ [(who, n)] else M
def giveF (M : PM) (who : Int) : Int := if (mFind who M).isSome = true then 0 else 5
def ofP (M : PM) (who : Int) : Int := match mFind who M with | some q => q.2 | none => 0
def atP (M : PM) (who : Int) : Int := match mFind who M with | some q => (q.1 : Int) | none => -1
structure PoolI (room : Int) (k : Nat) (M : PM) : Prop where
  r : 0 ≤ room ∧ room ≤ 2000
  nn : ∀ p ∈ M, 0 ≤ p.2
  s : sumP M ≤ room
  l : M.length ≤ k
theorem sumP_app : ∀ (M M' : PM), sumP (M ++ M') = sumP M + sumP M'
  | [], M' => by simp [sumP]
  | p :: M, M' => by simp only [List.cons_append, sumP, sumP_app M M']; omega
theorem sumP_nn : ∀ {M : PM}, (∀ p ∈ M, 0 ≤ p.2) → 0 ≤ sumP M
  | [], _ => by simp [sumP]
  | p :: M, h => by
    have h1 := h p (by simp)
    have h2 := sumP_nn (M := M) fun q hq => h q (by simp [hq])
    simp only [sumP]; omega
theorem sumP_take (M : PM) (i : Nat) (h : ∀ p ∈ M, 0 ≤ p.2) : 0 ≤ sumP (M.take i) ∧ sumP (M.take i) ≤ sumP M := by
  have h1 := sumP_nn (M := M.take i) fun q hq => h q (List.mem_of_mem_take hq)
  have h2 := sumP_nn (M := M.drop i) fun q hq => h q (List.mem_of_mem_drop hq)
  have h3 := sumP_app (M.take i) (M.drop i)
  rw [List.take_append_drop] at h3
  omega
theorem sumP_take1 {M : PM} {i : Nat} {p : Int × Int} (h : M[i]? = some p) : sumP (M.take (i + 1)) = sumP (M.take i) + p.2 := by
  rw [List.take_add_one, h, sumP_app]; simp [sumP]
theorem sumP_erase {M : PM} {i : Nat} {p : Int × Int} (h : M[i]? = some p) : sumP (M.eraseIdx i) = sumP M - p.2 := by
  have hlt : i < M.length := by
    rcases Nat.lt_or_ge i M.length with h' | h'
    · exact h'
    · rw [List.getElem?_eq_none h'] at h; cases h
  have h3 := sumP_app (M.take i) (M.drop i)
  rw [List.take_append_drop, List.drop_eq_getElem_cons hlt] at h3
  rw [List.getElem?_eq_getElem hlt] at h; injection h with h
  rw [h] at h3
  rw [List.eraseIdx_eq_take_drop_succ, sumP_app]
  simp only [sumP] at h3; omega
theorem mFind_at {who : Int} : ∀ {M : PM} {i : Nat} {p : Int × Int}, M[i]? = some p → p.1 = who → (∀ (j : Nat) (q : Int × Int), j < i → M[j]? = some q → ¬ q.1 = who) → mFind who M = some (i, p.2)
  | [], i, p, h, _, _ => by simp at h
  | m :: M, 0, p, h, e, _ => by
    simp at h; subst h
    unfold mFind; rw [if_pos e.symm]
  | m :: M, i + 1, p, h, e, hb => by
    have h0 := hb 0 m (by omega) rfl
    have := mFind_at (M := M) (i := i) (p := p) (by simpa using h) e fun j q hj hq => hb (j + 1) q (by omega) (by simpa using hq)
    unfold mFind; rw [if_neg (fun e => h0 e.symm), this]; rfl
theorem mFind_no {who : Int} : ∀ {M : PM}, (∀ (j : Nat) (q : Int × Int), M[j]? = some q → ¬ q.1 = who) → mFind who M = none
  | [], _ => rfl
  | m :: M, hb => by
    have h0 := hb 0 m rfl
    have := mFind_no (M := M) fun j q hq => hb (j + 1) q (by simpa using hq)
    unfold mFind; rw [if_neg (fun e => h0 e.symm), this]; rfl
theorem mFind_lt {who : Int} {M : PM} {i : Nat} {b : Int} (h : mFind who M = some (i, b)) : i < M.length := by
  have := (mFind_spec h).1
  rcases Nat.lt_or_ge i M.length with h' | h'
  · exact h'
  · rw [List.getElem?_eq_none h'] at this; cases this
theorem PoolI.nil {room : Int} (h : 0 ≤ room ∧ room ≤ 2000) : PoolI room 0 [] := ⟨h, by simp, by simp [sumP]; omega, by simp⟩
theorem PoolI.mono {room : Int} {k k' : Nat} {M : PM} (h : PoolI room k M) (hk : k ≤ k') : PoolI room k' M := ⟨h.r, h.nn, h.s, by have := h.l; omega⟩
theorem PoolI.take {room : Int} {k : Nat} {M : PM} (h : PoolI room k M) (who n : Int) : PoolI room (k + 1) (takeM room M who n) := by
  unfold takeM
  split
  · rename_i e
    have hn : ¬ n < 0 ∧ ¬ room - sumP M < n := by
      unfold takeF at e
      split at e
      · omega
      · split at e
        · omega
        · split at e
          · omega
          · omega
    refine ⟨h.r, fun p hp => ?_, ?_, by have := h.l; simp; omega⟩
    · rcases List.mem_append.1 hp with hp | hp
      · exact h.nn p hp
      · simp at hp; subst hp; simp only []; omega
    · rw [sumP_app]; simp only [sumP]; omega
  · exact h.mono (by omega)
theorem PoolI.cut {room : Int} {k : Nat} {M : PM} (h : PoolI room k M) (who : Int) : PoolI room (k + 1) (mCut who M) := by
  cases hf : mFind who M with
  | none => rw [mCut_none hf]; exact h.mono (by omega)
  | some q =>
    obtain ⟨i, b⟩ := q
    obtain ⟨h1, _, h3⟩ := mFind_spec hf
    rw [h3]
    have hb := h.nn _ (List.mem_of_getElem? h1)
    simp only [] at hb
    refine ⟨h.r, fun p hp => h.nn p (List.mem_of_mem_eraseIdx hp), ?_, ?_⟩
    · rw [sumP_erase h1]; have := h.s; simp only []; omega
    · have := List.length_eraseIdx_le M i; have := h.l; omega
theorem takeF_bd (room : Int) (M : PM) (who n : Int) : 0 ≤ takeF room M who n ∧ takeF room M who n ≤ 17 := by unfold takeF; (repeat' split) <;> omega
theorem giveF_bd (M : PM) (who : Int) : 0 ≤ giveF M who ∧ giveF M who ≤ 17 := by unfold giveF; split <;> omega
theorem PoolI.of {room : Int} {k : Nat} {M : PM} (h : PoolI room k M) (who : Int) : 0 ≤ ofP M who ∧ ofP M who ≤ 2000 := by
  unfold ofP
  cases hf : mFind who M with
  | none => simp
  | some q =>
    obtain ⟨i, b⟩ := q
    have h1 := (mFind_spec hf).1
    have h2 := sumP_take1 h1
    have h3 := sumP_take M i h.nn
    have h4 := sumP_take M (i + 1) h.nn
    have h5 := h.nn _ (List.mem_of_getElem? h1)
    have h6 := h.s; have h7 := h.r
    simp only [] at h2 h5 ⊢
    omega
theorem takeF_neg {room : Int} {M : PM} {who n : Int} (h : n < 0) : takeF room M who n = 1 := by unfold takeF; rw [if_pos h]
theorem takeF_is {room : Int} {M : PM} {who n : Int} (h : ¬ n < 0) (h2 : (mFind who M).isSome = true) : takeF room M who n = 6 := by unfold takeF; rw [if_neg h, if_pos h2]
theorem takeF_room {room : Int} {M : PM} {who n : Int} (h : ¬ n < 0) (h2 : (mFind who M).isSome = false) (h3 : room - sumP M < n) : takeF room M who n = 13 := by unfold takeF; rw [if_neg h, if_neg (by rw [h2]; decide), if_pos h3]
theorem takeF_ok {room : Int} {M : PM} {who n : Int} (h : ¬ n < 0) (h2 : (mFind who M).isSome = false) (h3 : ¬ room - sumP M < n) : takeF room M who n = 0 := by unfold takeF; rw [if_neg h, if_neg (by rw [h2]; decide), if_neg h3]
theorem takeM_bad {room : Int} {M : PM} {who n : Int} (h : ¬ takeF room M who n = 0) : takeM room M who n = M := by unfold takeM; rw [if_neg h]
theorem takeM_ok {room : Int} {M : PM} {who n : Int} (h : takeF room M who n = 0) : takeM room M who n = M ++ [(who, n)] := by unfold takeM; rw [if_pos h]
theorem giveF_no {M : PM} {who : Int} (h : mFind who M = none) : giveF M who = 5 := by unfold giveF; rw [h]; rfl
theorem giveF_ok {M : PM} {who : Int} {q : Nat × Int} (h : mFind who M = some q) : giveF M who = 0 := by unfold giveF; rw [h]; rfl
theorem sumP_cut {M : PM} {who : Int} {i : Nat} {b : Int} (h : mFind who M = some (i, b)) : sumP (mCut who M) = sumP M - b := by
  obtain ⟨h1, _, h3⟩ := mFind_spec h
  rw [h3, sumP_erase h1]
end Go.Proofs.Ytejkmomfpidnbaa
