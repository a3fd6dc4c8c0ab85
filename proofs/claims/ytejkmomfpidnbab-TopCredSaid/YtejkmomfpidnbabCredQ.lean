/- Package cred in plain terms. No program is named here. -/
import Derived.Test.YtejkmomfpidnbabRep
import Derived.Test.YtejkmomfpidnbabPermP
namespace Go.Proofs.Ytejkmomfpidnbab
open Go.RowKit
set_option linter.unusedSimpArgs false
set_option linter.unusedVariables false

def gF (prev : Option Int) : List Int → Int
  | [] => 0
  | x :: l => if ¬ (0 ≤ x ∧ x ≤ 65535) then 1 else if (∃ y, prev = some y ∧ x ≤ y) then 3 else gF (some x) l
def credF (u g d : Int) (xs : List Int) : Int :=
  if ¬ (0 ≤ u ∧ u ≤ 65535) ∨ ¬ (0 ≤ g ∧ g ≤ 65535) ∨ d < 0 ∨ 15 < d then 1 else if 4 < xs.length then 2 else gF none xs
def prevQ (xs : List Int) (k : Nat) : Option Int := if k = 0 then none else xs[k - 1]?
theorem gF_bad {p : Option Int} {x : Int} {l : List Int} (h : ¬ (0 ≤ x ∧ x ≤ 65535)) : gF p (x :: l) = 1 := by rw [gF, if_pos h]
theorem gF_down {y x : Int} {l : List Int} (h : 0 ≤ x ∧ x ≤ 65535) (h2 : x ≤ y) : gF (some y) (x :: l) = 3 := by rw [gF, if_neg (by omega), if_pos ⟨y, rfl, h2⟩]
theorem gF_on {y x : Int} {l : List Int} (h : 0 ≤ x ∧ x ≤ 65535) (h2 : ¬ x ≤ y) : gF (some y) (x :: l) = gF (some x) l := by
  rw [gF, if_neg (by omega), if_neg (by rintro ⟨z, hz, hl⟩; injection hz with hz; omega)]
theorem gF_first {x : Int} {l : List Int} (h : 0 ≤ x ∧ x ≤ 65535) : gF none (x :: l) = gF (some x) l := by
  rw [gF, if_neg (by omega), if_neg (by rintro ⟨z, hz, hl⟩; cases hz)]
theorem prevQ_pos {xs : List Int} {k : Nat} (h : ¬ k = 0) : prevQ xs k = xs[k - 1]? := if_neg h
theorem prevQ_succ {xs : List Int} {k : Nat} : prevQ xs (k + 1) = xs[k]? := by rw [prevQ, if_neg (by omega)]; rfl
theorem drop_at' {α : Type} {xs : List α} {k : Nat} {x : α} (h : xs[k]? = some x) : xs.drop k = x :: xs.drop (k + 1) := drop_at h
theorem gF_bd : ∀ (l : List Int) (p : Option Int), 0 ≤ gF p l ∧ gF p l ≤ 3
  | [], _ => by simp [gF]
  | x :: l, p => by
    rw [gF]
    split
    · omega
    · split
      · omega
      · exact gF_bd l _
theorem credF_bd (u g d : Int) (xs : List Int) : 0 ≤ credF u g d xs ∧ credF u g d xs ≤ 3 := by
  unfold credF
  (repeat' split) <;> first | omega | exact gF_bd _ _
theorem gF_ids : ∀ (l : List Int) (p : Option Int), gF p l = 0 → ∀ x ∈ l, 0 ≤ x ∧ x ≤ 65535
  | [], _, _, x, h => by cases h
  | y :: l, p, h, x, hx => by
    rw [gF] at h
    split at h
    · omega
    · split at h
      · omega
      · rcases List.mem_cons.1 hx with rfl | hx
        · omega
        · exact gF_ids l _ h x hx
theorem credF_zero {u g d : Int} {xs : List Int} (h : credF u g d xs = 0) : (0 ≤ u ∧ u ≤ 65535) ∧ (0 ≤ g ∧ g ≤ 65535) ∧ (0 ≤ d ∧ d ≤ 15) ∧ xs.length ≤ 4 ∧ gF none xs = 0 := by
  unfold credF at h
  split at h
  · omega
  · split at h
    · omega
    · refine ⟨?_, ?_, ?_, ?_, h⟩ <;> omega
theorem credF_of {u g d : Int} {xs : List Int} (h1 : 0 ≤ u ∧ u ≤ 65535) (h2 : 0 ≤ g ∧ g ≤ 65535) (h3 : 0 ≤ d ∧ d ≤ 15) (h4 : xs.length ≤ 4) : credF u g d xs = gF none xs := by
  unfold credF
  rw [if_neg (by omega), if_neg (by omega)]

/-- Becoming another one: what is wrong; the capabilities that are left. -/
def becF (u g d : Int) (xs : List Int) (user group : Int) : Int :=
  if ¬ credF u g d xs = 0 then credF u g d xs
  else if ¬ (0 ≤ user ∧ user ≤ 65535) ∨ ¬ (0 ≤ group ∧ group ≤ 65535) then 1
  else if ¬ d / 8 % 2 = 1 ∧ (¬ user = u ∨ ¬ (g = group ∨ group ∈ xs)) then 10 else 0
def becCaps (u d user : Int) : Int := if ¬ user = u ∧ ¬ user = 0 then 0 else d
theorem becF_bd (u g d : Int) (xs : List Int) (user group : Int) : 0 ≤ becF u g d xs user group ∧ becF u g d xs user group ≤ 10 := by
  have := credF_bd u g d xs
  unfold becF
  (repeat' split) <;> omega

/-! ### Bits of a capability, of a mode -/
theorem cap_bit (d : Int) (h0 : 0 ≤ d) (h1 : d ≤ 15) : decide (bits .and .i64 d 8 = 8) = decide (d / 8 % 2 = 1) := by
  have := small (p := fun d => decide (bits .and .i64 d 8 = 8) == decide (d / 8 % 2 = 1)) 16 (by decide +kernel) d h0 (by omega)
  simpa using this
theorem cap_bit' {d : Int} (h0 : 0 ≤ d) (h1 : d ≤ 15) : bits .and .i64 d 8 = 8 ↔ d / 8 % 2 = 1 := by
  have := cap_bit d h0 h1
  rw [decide_eq_decide] at this; exact this
theorem mode_bit {m : Int} (h0 : 0 ≤ m) (h1 : m ≤ 4095) : (¬ bits .and .i64 m 1024 = 0) ↔ m / 1024 % 2 = 1 := by
  have := small (p := fun d => decide (¬ bits .and .i64 d 1024 = 0) == decide (d / 1024 % 2 = 1)) 4096 (by decide +kernel) m h0 (by omega)
  simp only [beq_iff_eq, decide_eq_decide] at this; exact this
/-- The mode without the two bits that are wiped. -/
def wipeZ (m : Int) : Int := if m / 2048 % 2 = 1 then (if (m - 2048) / 1024 % 2 = 1 then m - 2048 - 1024 else m - 2048) else (if m / 1024 % 2 = 1 then m - 1024 else m)
theorem mode_wipe {m : Int} (h0 : 0 ≤ m) (h1 : m ≤ 4095) : bits .andNot .i64 m 3072 = wipeZ m := by
  have := small (p := fun d => decide (bits .andNot .i64 d 3072 = wipeZ d)) 4096 (by decide +kernel) m h0 (by omega)
  simpa using this
end Go.Proofs.Ytejkmomfpidnbab
