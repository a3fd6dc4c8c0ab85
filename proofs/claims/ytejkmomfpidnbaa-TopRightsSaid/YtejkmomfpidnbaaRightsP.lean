/- TopRights, in plain terms: wanting two things is wanting each; capabilities do not move what is not mapped; more of them refuse nothing. No program is named here. -/
import Derived.Test.YtejkmomfpidnbaaPermP
namespace Go.Proofs.Ytejkmomfpidnbaa
open Go.RowKit
set_option linter.unusedSimpArgs false
set_option linter.unusedVariables false

theorem small2 {p : Int → Int → Bool} (N M : Nat) (h : ((List.range N).all fun i => (List.range M).all fun j => p (i : Int) (j : Int)) = true) (x y : Int) (h0 : 0 ≤ x) (h1 : x < N) (k0 : 0 ≤ y) (k1 : y < M) : p x y = true := by
  obtain ⟨n, rfl⟩ := Int.eq_ofNat_of_zero_le h0
  obtain ⟨m, rfl⟩ := Int.eq_ofNat_of_zero_le k0
  exact List.all_eq_true.1 (List.all_eq_true.1 h n (List.mem_range.2 (by omega))) m (List.mem_range.2 (by omega))

theorem or_bd (a b : Int) (a0 : 0 ≤ a) (a1 : a ≤ 7) (b0 : 0 ≤ b) (b1 : b ≤ 7) : 0 ≤ bits .or .i64 a b ∧ bits .or .i64 a b ≤ 7 := by
  simpa using small2 (p := fun a b => decide (0 ≤ bits .or .i64 a b) && decide (bits .or .i64 a b ≤ 7)) 8 8 (by decide +kernel) a b a0 (by omega) b0 (by omega)
theorem or_bit1 (a b : Int) (a0 : 0 ≤ a) (a1 : a ≤ 7) (b0 : 0 ≤ b) (b1 : b ≤ 7) : bitZ (bits .or .i64 a b) 1 = (bitZ a 1 || bitZ b 1) := by
  simpa using small2 (p := fun a b => bitZ (bits .or .i64 a b) 1 == (bitZ a 1 || bitZ b 1)) 8 8 (by decide +kernel) a b a0 (by omega) b0 (by omega)
theorem or_all (a b r : Int) (a0 : 0 ≤ a) (a1 : a ≤ 7) (b0 : 0 ≤ b) (b1 : b ≤ 7) (r0 : 0 ≤ r) (r1 : r < 8) : a3Z (bits .or .i64 a b) r = (a3Z a r && a3Z b r) := by
  have := small2 (p := fun a b => (List.range 8).all fun r => a3Z (bits .or .i64 a b) r == (a3Z a r && a3Z b r)) 8 8 (by decide +kernel) a b a0 (by omega) b0 (by omega)
  obtain ⟨n, rfl⟩ := Int.eq_ofNat_of_zero_le r0
  simpa using List.all_eq_true.1 this n (List.mem_range.2 (by omega))
theorem all_bit1 (a r : Int) (a0 : 0 ≤ a) (a1 : a ≤ 7) (r0 : 0 ≤ r) (r1 : r < 8) : a3Z a r = true → bitZ a 1 = true → bitZ r 1 = true := by
  have := small2 (p := fun a r => !(a3Z a r && bitZ a 1) || bitZ r 1) 8 8 (by decide +kernel) a r a0 (by omega) r0 r1
  intro h1 h2; simpa [h1, h2] using this
theorem more_bit (c m : Int) (c0 : 0 ≤ c) (c1 : c ≤ 15) (m0 : 0 ≤ m) (m1 : m ≤ 15) :
    (0 ≤ bits .or .i64 c m ∧ bits .or .i64 c m ≤ 15) ∧ (bitZ c 2 = true → bitZ (bits .or .i64 c m) 2 = true) ∧ (bitZ c 4 = true → bitZ (bits .or .i64 c m) 4 = true) := by
  have := small2 (p := fun c m => decide (0 ≤ bits .or .i64 c m) && decide (bits .or .i64 c m ≤ 15) && (!bitZ c 2 || bitZ (bits .or .i64 c m) 2) && (!bitZ c 4 || bitZ (bits .or .i64 c m) 4)) 16 16 (by decide +kernel) c m c0 (by omega) m0 (by omega)
  simp at this
  obtain ⟨⟨⟨h1, h2⟩, h3⟩, h4⟩ := this
  refine ⟨⟨h1, h2⟩, fun h => ?_, fun h => ?_⟩
  · rcases h3 with h3 | h3
    · rw [h] at h3; cases h3
    · exact h3
  · rcases h4 with h4 | h4
    · rw [h] at h4; cases h4
    · exact h4
theorem rights_go (cu cg : Int) (xs : List Int) (mode tu tg : Int) (mapped : Bool) (h0 : 0 ≤ mode) : bitZ (rightsZ cu cg xs mode tu tg mapped) 1 = true → (bitZ mode 1 || bitZ mode 8 || bitZ mode 64) = true := by
  unfold rightsZ bitZ
  (repeat' split) <;> simp <;> omega

theorem may_both (cu cg caps : Int) (xs : List Int) (dir : Bool) (mode tu tg : Int) (mapped : Bool) (a b : Int) (h0 : 0 ≤ mode) (h1 : mode ≤ 4095) (h2 : 0 ≤ caps) (h3 : caps ≤ 15) (a0 : 0 ≤ a) (a1 : a ≤ 7) (b0 : 0 ≤ b) (b1 : b ≤ 7) :
    mayZ cu cg caps xs dir mode tu tg mapped (bits .or .i64 a b) = (mayZ cu cg caps xs dir mode tu tg mapped a && mayZ cu cg caps xs dir mode tu tg mapped b) := by
  obtain ⟨o0, o1⟩ := or_bd a b a0 a1 b0 b1
  obtain ⟨r0, r1⟩ := rights_bd cu cg xs mode tu tg mapped
  have hg := rights_go cu cg xs mode tu tg mapped h0
  have ga := all_bit1 a _ a0 a1 r0 r1
  have gb := all_bit1 b _ b0 b1 r0 r1
  simp only [mayZ_eq cu cg caps xs dir mode tu tg mapped _ h0 (by omega) h2 (by omega), rmayZ, or_all a b _ a0 a1 b0 b1 r0 r1, or_bit1 a b a0 a1 b0 b1, o0, o1, a0, a1, b0, b1, decide_true, Bool.true_and]
  generalize rightsZ cu cg xs mode tu tg mapped = r at *
  generalize (bitZ mode 1 || bitZ mode 8 || bitZ mode 64) = x at *
  revert ga gb hg
  cases a3Z a r <;> cases a3Z b r <;> cases bitZ a 1 <;> cases bitZ b 1 <;> cases bitZ r 1 <;> cases x <;> cases mapped <;> cases bitZ caps 2 <;> cases dir <;> simp

theorem may_bare (cu cg caps : Int) (xs : List Int) (dir : Bool) (mode tu tg : Int) (a : Int) : mayZ cu cg 0 xs dir mode tu tg false a = mayZ cu cg caps xs dir mode tu tg false a := by
  simp [mayZ]
theorem owns_bare (cu caps tu : Int) : ownsZ cu caps tu false = false := by simp [ownsZ]
theorem may_rich (cu cg caps more : Int) (xs : List Int) (dir : Bool) (mode tu tg : Int) (mapped : Bool) (a : Int) (h0 : 0 ≤ mode) (h1 : mode ≤ 4095) (h2 : 0 ≤ caps) (h3 : caps ≤ 15) (m0 : 0 ≤ more) (m1 : more ≤ 15)
    (h : mayZ cu cg caps xs dir mode tu tg mapped a = true) : mayZ cu cg (bits .or .i64 caps more) xs dir mode tu tg mapped a = true := by
  obtain ⟨⟨o0, o1⟩, k2, _⟩ := more_bit caps more h2 h3 m0 m1
  rw [mayZ_eq _ _ _ _ _ _ _ _ _ _ h0 (by omega) h2 (by omega), rmayZ] at h
  rw [mayZ_eq _ _ _ _ _ _ _ _ _ _ h0 (by omega) o0 (by omega), rmayZ]
  simp at h ⊢
  obtain ⟨⟨h4, h5⟩, h6⟩ := h
  refine ⟨⟨h4, h5⟩, ?_⟩
  rcases h6 with h6 | ⟨⟨h6, h7⟩, h8⟩
  · exact .inl h6
  · exact .inr ⟨⟨h6, k2 h7⟩, h8⟩
theorem owns_rich (cu caps more tu : Int) (mapped : Bool) (h2 : 0 ≤ caps) (h3 : caps ≤ 15) (m0 : 0 ≤ more) (m1 : more ≤ 15) (h : ownsZ cu caps tu mapped = true) : ownsZ cu (bits .or .i64 caps more) tu mapped = true := by
  obtain ⟨⟨o0, o1⟩, _, k4⟩ := more_bit caps more h2 h3 m0 m1
  rw [ownsZ, caps4 _ h2 (by omega)] at h
  rw [ownsZ, caps4 _ o0 (by omega)]
  simp at h ⊢
  exact ⟨h.1, h.2.imp id k4⟩
theorem takes_rich (cu caps more dmode du : Int) (dm : Bool) (tu : Int) (mapped : Bool) (h2 : 0 ≤ caps) (h3 : caps ≤ 15) (m0 : 0 ≤ more) (m1 : more ≤ 15) (h : takesZ cu caps dmode du dm tu mapped = true) : takesZ cu (bits .or .i64 caps more) dmode du dm tu mapped = true := by
  rw [takesZ] at h ⊢
  cases h1 : ownsZ cu caps tu mapped
  · rw [h1] at h
    simp at h ⊢
    rcases h with h | h
    · exact .inl (.inl h)
    · exact .inr h
  · rw [owns_rich cu caps more tu mapped h2 h3 m0 m1 h1]; simp
end Go.Proofs.Ytejkmomfpidnbaa
