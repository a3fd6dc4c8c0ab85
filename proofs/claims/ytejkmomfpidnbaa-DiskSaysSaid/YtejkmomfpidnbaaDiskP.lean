/- A disk in plain terms. No program is named here. -/
import Derived.Test.YtejkmomfpidnbaaMut2
namespace Go.Proofs.Ytejkmomfpidnbaa
open Go.RowKit
set_option linter.unusedSimpArgs false
set_option linter.unusedVariables false
structure DS where
  bs : List UInt8
  cut : Int
  off : Bool
  wr : Int
def dFault (s : DS) (a n : Int) : Int := if s.off = true then 16 else if 0 ≤ a ∧ 0 ≤ n ∧ a ≤ s.bs.length ∧ n ≤ s.bs.length - a then 0 else 1
def dN (s : DS) (m : Nat) : Nat := if 0 ≤ s.cut ∧ s.cut < m then s.cut.toNat else m
def dShort (s : DS) (m : Nat) : Bool := decide (0 ≤ s.cut ∧ s.cut < m)
def dPut (s : DS) (a : Nat) (l : List UInt8) : DS :=
  ⟨s.bs.take a ++ l.take (dN s l.length) ++ s.bs.drop (a + dN s l.length), if 0 ≤ s.cut then s.cut - dN s l.length else s.cut, dShort s l.length, s.wr + dN s l.length⟩
def dWriteF (s : DS) (a : Int) (l : List UInt8) : Int := if ¬ dFault s a l.length = 0 then dFault s a l.length else if dShort s l.length = true then 16 else 0
def dWriteS (s : DS) (a : Int) (l : List UInt8) : DS := if ¬ dFault s a l.length = 0 then s else dPut s a.toNat l
def dCutF (s : DS) (n : Int) : Int := if s.off = true then 16 else if n < 0 then 1 else 0
def dCutS (s : DS) (n : Int) : DS := if dCutF s n = 0 then ⟨s.bs, n, s.off, s.wr⟩ else s
def dOn (s : DS) : DS := ⟨s.bs, -1, false, s.wr⟩
def dRead (s : DS) (a n : Int) : List UInt8 := (s.bs.drop a.toNat).take n.toNat
theorem dFault_off {s : DS} {a n : Int} (h : s.off = true) : dFault s a n = 16 := by rw [dFault, if_pos h]
theorem dFault_bad {s : DS} {a n : Int} (h : s.off = false) (h2 : ¬ (0 ≤ a ∧ 0 ≤ n ∧ a ≤ s.bs.length ∧ n ≤ s.bs.length - a)) : dFault s a n = 1 := by rw [dFault, if_neg (by rw [h]; simp), if_neg h2]
theorem dFault_ok {s : DS} {a n : Int} (h : s.off = false) (h2 : 0 ≤ a ∧ 0 ≤ n ∧ a ≤ s.bs.length ∧ n ≤ s.bs.length - a) : dFault s a n = 0 := by rw [dFault, if_neg (by rw [h]; simp), if_pos h2]
theorem dFault_zero {s : DS} {a n : Int} (h : dFault s a n = 0) : s.off = false ∧ 0 ≤ a ∧ 0 ≤ n ∧ a ≤ s.bs.length ∧ n ≤ s.bs.length - a := by
  unfold dFault at h
  split at h
  · omega
  · rename_i ho
    split at h
    · rename_i h2; exact ⟨by simpa using ho, h2⟩
    · omega
theorem dFault_bd (s : DS) (a n : Int) : 0 ≤ dFault s a n ∧ dFault s a n ≤ 16 := by unfold dFault; (repeat' split) <;> omega
theorem dWriteF_bd (s : DS) (a : Int) (l : List UInt8) : 0 ≤ dWriteF s a l ∧ dWriteF s a l ≤ 16 := by
  have := dFault_bd s a l.length
  unfold dWriteF; (repeat' split) <;> omega
theorem dCutF_bd (s : DS) (n : Int) : 0 ≤ dCutF s n ∧ dCutF s n ≤ 16 := by unfold dCutF; (repeat' split) <;> omega
theorem dN_le (s : DS) (m : Nat) : dN s m ≤ m := by unfold dN; split <;> omega
theorem dPut_len (s : DS) (a : Nat) (l : List UInt8) (h : a + l.length ≤ s.bs.length) : (dPut s a l).bs.length = s.bs.length := by
  have := dN_le s l.length
  simp [dPut]; omega
/-- Bytes as a row of one cell each. -/
abbrev u8F (c : UInt8) : List Value := [.int .u8 (c.toNat : Int)]
theorem u8F_len (c : UInt8) : (u8F c).length = 1 := rfl
theorem ones_any {l : List Value} (h : ∀ u ∈ l, isOne u = true) : ∀ u ∈ l, isOne u = true := h
theorem ones_u8 (l : List UInt8) : ∀ u ∈ l.flatMap u8F, isOne u = true := fun u hu => by
  obtain ⟨c, _, hc⟩ := List.mem_flatMap.1 hu
  rw [List.mem_singleton] at hc; subst hc; rfl
theorem u8C_flat (l : List UInt8) : u8C l = l.flatMap u8F := map_flat (fun c : UInt8 => Value.int .u8 (c.toNat : Int)) l
theorem made_u8 (n : Nat) : (madeCells (Value.int .u8 0).cells (n * 1)).toList = (List.replicate n (0 : UInt8)).flatMap u8F := by
  rw [← u8C_flat]
  apply List.ext_getElem?
  intro i
  simp only [madeCells, u8C, Array.getElem?_toList, List.map_replicate, List.getElem?_replicate]
  rcases Nat.lt_or_ge i n with h | h
  · simp [h, Value.cells, Nat.mod_one]
  · simp [h, Nat.not_lt.2 h]
theorem over' {α : Type} {f : α → List Value} {sz : Nat} (hf : ∀ x, (f x).length = sz) {xs zs : List α} {rest : List Value} {p : Nat} (hp : p + zs.length ≤ xs.length) : spl (xs.flatMap f ++ rest) (p * sz) (zs.flatMap f) = (xs.take p ++ zs ++ xs.drop (p + zs.length)).flatMap f ++ rest := by
  have h1 := flat_len f hf xs
  have h2 := flat_len f hf zs
  have h3 : p * sz + zs.length * sz ≤ xs.length * sz := by rw [← Nat.add_mul]; exact Nat.mul_le_mul_right sz hp
  rw [spl_app _ _ _ (by rw [h2, List.length_append, h1]; omega), h2, List.take_append_of_le_length (by omega), List.drop_append_of_le_length (by omega), ← Nat.add_mul, (flat_cut hf xs p).1, (flat_cut hf xs (p + zs.length)).2, List.flatMap_append, List.flatMap_append]
  simp [List.append_assoc]
theorem cut' {g c l sz : Nat} (h : l < c) : cutA (some ⟨g, 0, none⟩) c l sz = some ⟨g, l * sz, none⟩ := by
  unfold cutA
  rw [if_neg (by omega)]
  simp [add_none]
/-- A part of an own row, as a source. -/
theorem src_cut {B : Base} {V : View} {L : List Box} {A : Option Addr} {n c E m l : Nat} {bs : List UInt8} {L1 : List Box} (h : RowL A n c E 1 (bs.flatMap u8F) L1) (hm : ∀ b ∈ L1, b ∈ L) (hl : bs.length = n) (hk : l + m ≤ n) : SrcIs B V L 1 (cutA A c l 1) m (u8C ((bs.drop l).take m)) := fun w hs => by
  have ho := CellsAt.of_own (h.owns hs hm)
  refine ⟨by rw [u8C_len]; simp; omega, fun hp => ?_⟩
  obtain ⟨b, off, ha, hc⟩ := ho.2 (by omega)
  have hcap := h.cap
  subst ha
  refine ⟨b, off + l, ?_, fun j u hj => ?_⟩
  · unfold cutA
    rw [if_neg (by omega)]
    simp [add_none]
  · have := hc (l + j) u (by
      rw [← u8C_flat]
      unfold u8C at hj ⊢
      rw [List.getElem?_map] at hj ⊢
      rw [List.getElem?_take] at hj
      split at hj
      · rw [List.getElem?_drop] at hj; exact hj
      · cases hj)
    rw [show off + l + j = off + (l + j) by omega]; exact this
end Go.Proofs.Ytejkmomfpidnbaa
