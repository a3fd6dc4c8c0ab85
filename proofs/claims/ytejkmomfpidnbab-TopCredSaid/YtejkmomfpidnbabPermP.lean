/- What package perm and its reference reckon, as plain functions; and that they agree. No program is named here. -/
import Derived.Test.YtejkmomfpidnbabBase
namespace Go.Proofs.Ytejkmomfpidnbab
open Go.RowKit
set_option linter.unusedSimpArgs false
set_option linter.unusedVariables false

def hasB (g : Int) (xs : List Int) (x : Int) : Bool := g == x || xs.contains x

theorem contains_snoc {xs : List Int} {k : Nat} {z : Int} (h : Hid (xs[k]? = some z)) (g : Int) (h2 : Hid ((xs.take k).contains g = false)) (hz : (z == g) = false) : Hid ((xs.take (k + 1)).contains g = false) := by
  have h := h.out; have h2 := h2.out
  show _ = _
  rw [List.take_add_one, h]
  simp at *
  exact ⟨h2, fun e => hz e.symm⟩
theorem has_snoc {xs : List Int} {k : Nat} {z b : Int} (h : Hid (xs[k]? = some z)) (g : Int) (h2 : Hid ((b == g || (xs.take k).contains g) = false)) : Hid ((b == g || (xs.take (k + 1)).contains g) = (z == g)) := by
  have h := h.out; have h2 := h2.out
  show _ = _
  rw [List.take_add_one, h]
  simp at *
  obtain ⟨h1, h2⟩ := h2
  rw [Bool.eq_iff_iff]; simp [h1, h2]; exact eq_comm
theorem has_snoc' {xs : List Int} {k : Nat} {z b : Int} (h : Hid (xs[k]? = some z)) (g : Int) (h2 : Hid ((b == g || (xs.take k).contains g) = true)) : Hid ((b == g || (xs.take (k + 1)).contains g) = true) := by
  have h := h.out; have h2 := h2.out
  show _ = _
  rw [List.take_add_one, h]
  simp at *
  rcases h2 with h2 | h2 <;> simp [h2]
theorem contains_yes {xs : List Int} {k : Nat} {z : Int} (h : Hid (xs[k]? = some z)) (g : Int) (hz : (z == g) = true) : xs.contains g = true := by
  have h := h.out
  simp at *
  subst hz
  exact List.mem_of_getElem? h

def classZ (cu cg : Int) (xs : List Int) (mode tu tg : Int) (mapped : Bool) : Int :=
  if mapped && tu == cu then bits .and .i64 (mode / 64) 7 else if mapped && hasB cg xs tg then bits .and .i64 (mode / 8) 7 else bits .and .i64 mode 7

def bitZ (x b : Int) : Bool := x / b % 2 == 1

theorem bit_plain (x b : Int) (h0 : 0 ≤ x) (h9 : x ≤ 65535) (h1 : 0 < b) : ((wrap64 (x.tdiv b)).tmod 2 == 1) = bitZ x b := by
  have e1 : x.tdiv b = x / b := Int.tdiv_eq_ediv_of_nonneg h0
  have e2 : 0 ≤ x / b := Int.ediv_nonneg h0 (by omega)
  have e3 : x / b ≤ x := Int.ediv_le_self b h0
  rw [e1, IntWalk.wrap64_in _ (by omega), Int.tmod_eq_emod_of_nonneg e2, bitZ]

def mayZ (cu cg caps : Int) (xs : List Int) (dir : Bool) (mode tu tg : Int) (mapped : Bool) (want : Int) : Bool :=
  decide (0 ≤ want) && decide (want ≤ 7) && (bits .and .i64 (classZ cu cg xs mode tu tg mapped) want == want || (mapped && bits .and .i64 caps 2 == 2 && (dir || bits .and .i64 want 1 == 0 || bits .and .i64 mode 73 != 0)))

/-! ### Small numbers, bit by bit: all of them are asked. -/
theorem small {p : Int → Bool} (N : Nat) (h : (List.range N).all (fun i => p (i : Int)) = true) (x : Int) (h0 : 0 ≤ x) (h1 : x < N) : p x = true := by
  obtain ⟨n, rfl⟩ := Int.eq_ofNat_of_zero_le h0
  exact List.all_eq_true.1 h n (List.mem_range.2 (by omega))
theorem and7 (x : Int) (h0 : 0 ≤ x) (h1 : x < 4096) : bits .and .i64 x 7 = x % 8 := by
  simpa using small (p := fun x => bits .and .i64 x 7 == x % 8) 4096 (by decide +kernel) x h0 h1
theorem and73 (x : Int) (h0 : 0 ≤ x) (h1 : x < 4096) : (bits .and .i64 x 73 != 0) = (bitZ x 1 || bitZ x 8 || bitZ x 64) := by
  simpa using small (p := fun x => (bits .and .i64 x 73 != 0) == (bitZ x 1 || bitZ x 8 || bitZ x 64)) 4096 (by decide +kernel) x h0 h1
theorem and512 (x : Int) (h0 : 0 ≤ x) (h1 : x < 4096) : (bits .and .i64 x 512 == 0) = !bitZ x 512 := by
  simpa using small (p := fun x => (bits .and .i64 x 512 == 0) == !bitZ x 512) 4096 (by decide +kernel) x h0 h1
theorem and1 (x : Int) (h0 : 0 ≤ x) (h1 : x < 4096) : (bits .and .i64 x 1 == 0) = !bitZ x 1 := by
  simpa using small (p := fun x => (bits .and .i64 x 1 == 0) == !bitZ x 1) 4096 (by decide +kernel) x h0 h1
theorem caps2 (x : Int) (h0 : 0 ≤ x) (h1 : x < 4096) : (bits .and .i64 x 2 == 2) = bitZ x 2 := by
  simpa using small (p := fun x => (bits .and .i64 x 2 == 2) == bitZ x 2) 4096 (by decide +kernel) x h0 h1
theorem caps4 (x : Int) (h0 : 0 ≤ x) (h1 : x < 4096) : (bits .and .i64 x 4 == 4) = bitZ x 4 := by
  simpa using small (p := fun x => (bits .and .i64 x 4 == 4) == bitZ x 4) 4096 (by decide +kernel) x h0 h1
theorem caps8 (x : Int) (h0 : 0 ≤ x) (h1 : x < 4096) : (bits .and .i64 x 8 == 8) = bitZ x 8 := by
  simpa using small (p := fun x => (bits .and .i64 x 8 == 8) == bitZ x 8) 4096 (by decide +kernel) x h0 h1
def a1Z (want r : Int) : Bool := !(bitZ want 1 && !bitZ r 1)
def a2Z (want r : Int) : Bool := a1Z want r && !(bitZ want 2 && !bitZ r 2)
def a3Z (want r : Int) : Bool := a2Z want r && !(bitZ want 4 && !bitZ r 4)
theorem andAll (r want : Int) (h0 : 0 ≤ r) (h1 : r < 8) (h2 : 0 ≤ want) (h3 : want < 8) : (bits .and .i64 r want == want) = a3Z want r := by
  have := small (p := fun r => (List.range 8).all fun v => (bits .and .i64 r v == v) == a3Z v r) 8 (by decide +kernel) r h0 h1
  obtain ⟨n, rfl⟩ := Int.eq_ofNat_of_zero_le h2
  simpa using List.all_eq_true.1 this n (List.mem_range.2 (by omega))

def rightsZ (cu cg : Int) (xs : List Int) (mode tu tg : Int) (mapped : Bool) : Int :=
  if mapped && tu == cu then mode / 64 % 8 else if mapped && hasB cg xs tg then mode / 8 % 8 else mode % 8
theorem classZ_eq (cu cg : Int) (xs : List Int) (mode tu tg : Int) (mapped : Bool) (h0 : 0 ≤ mode) (h1 : mode < 4096) : classZ cu cg xs mode tu tg mapped = rightsZ cu cg xs mode tu tg mapped := by
  unfold classZ rightsZ
  rw [and7 (mode / 64) (by omega) (by omega), and7 (mode / 8) (by omega) (by omega), and7 mode h0 h1]
theorem rights_bd (cu cg : Int) (xs : List Int) (mode tu tg : Int) (mapped : Bool) : 0 ≤ rightsZ cu cg xs mode tu tg mapped ∧ rightsZ cu cg xs mode tu tg mapped < 8 := by
  unfold rightsZ
  (repeat' split) <;> omega

/-- What the reference says. -/
def rmayZ (cu cg caps : Int) (xs : List Int) (dir : Bool) (mode tu tg : Int) (mapped : Bool) (want : Int) : Bool :=
  decide (0 ≤ want) && decide (want ≤ 7) && (a3Z want (rightsZ cu cg xs mode tu tg mapped) || (mapped && bitZ caps 2 && (dir || !bitZ want 1 || (bitZ mode 1 || bitZ mode 8 || bitZ mode 64))))
theorem mayZ_eq (cu cg caps : Int) (xs : List Int) (dir : Bool) (mode tu tg : Int) (mapped : Bool) (want : Int) (h0 : 0 ≤ mode) (h1 : mode < 4096) (h2 : 0 ≤ caps) (h3 : caps < 4096) :
    mayZ cu cg caps xs dir mode tu tg mapped want = rmayZ cu cg caps xs dir mode tu tg mapped want := by
  unfold mayZ rmayZ
  by_cases h : 0 ≤ want ∧ want ≤ 7
  · obtain ⟨k1, k2⟩ := h
    obtain ⟨b1, b2⟩ := rights_bd cu cg xs mode tu tg mapped
    rw [classZ_eq _ _ _ _ _ _ _ h0 h1, andAll _ _ b1 b2 k1 (by omega), caps2 _ h2 h3, and1 _ k1 (by omega), and73 _ h0 h1]
  · have : (decide (0 ≤ want) && decide (want ≤ 7)) = false := by simp; omega
    rw [this]; rfl

def ownsZ (cu caps : Int) (tu : Int) (mapped : Bool) : Bool := mapped && (tu == cu || bits .and .i64 caps 4 == 4)

def takesZ (cu caps : Int) (dmode du : Int) (dmapped : Bool) (tu : Int) (mapped : Bool) : Bool :=
  bits .and .i64 dmode 512 == 0 || ownsZ cu caps tu mapped || dmapped && du == cu

def isIDZ (x : Int) : Bool := decide (0 ≤ x) && decide (x ≤ 65535)

end Go.Proofs.Ytejkmomfpidnbab
