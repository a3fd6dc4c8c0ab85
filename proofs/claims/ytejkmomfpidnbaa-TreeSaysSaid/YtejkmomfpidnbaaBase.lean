/- Worlds that grow, and what stands in memory as plain data: words for the walks. No program is named here. -/
import Derived.WalkKit
import Derived.WalkSpells
import Derived.WalkLawsBesides
import Derived.Lib.Hide
import Derived.Deep.QuietTactic
import Derived.BigQuiet
import Derived.Lib.QuietBelow
namespace Go.Proofs.Ytejkmomfpidnbaa
open Go.RowKit

/-- w' is w with new blocks; nothing that was there has changed. -/
def Ext (w w' : World) : Prop := Below w.heap.size w w'

theorem Ext.refl (w : World) : Ext w w := Below.refl _ _
theorem Ext.al {w x : World} (o : Obj) (h : Ext w x) : Ext w (x.alloc o) := Below.alloc h h.size o
theorem Ext.dr {w x : World} (h : Ext w x) : Ext w x.drew := Below.drew h
theorem Ext.set {w x : World} {p : Addr} (v : Value) (h : Ext w x) (hp : w.heap.size ≤ p.block) : Ext w (x.setCell p v) := Below.setCell h hp v
theorem Ext.drN {w x : World} (n : Nat) (h : Ext w x) : Ext w (x.drewN n) := below_drewN h n
theorem Ext.via {w x y : World} (h : Ext w x) (k : Ext x y) : Ext w y := Below.trans h (Below.mono k h.size)
theorem Ext.sz {w x : World} (h : Ext w x) : w.heap.size ≤ x.heap.size := h.size
theorem Ext.cells {w x : World} (h : Ext w x) : ∀ b o, b < w.heap.size → x.cell? ⟨b, o, none⟩ = w.cell? ⟨b, o, none⟩ := fun b o hb => Below.cell h (p := ⟨b, o, none⟩) hb
theorem Ext.froz {w x : World} (h : Ext w x) : ∀ b o, b < w.heap.size → x.frozen? ⟨b, o, none⟩ = w.frozen? ⟨b, o, none⟩ := fun b o hb => Below.frozen h (p := ⟨b, o, none⟩) hb
theorem Ext.kept {w x : World} (h : Ext w x) {p : Addr} {v : Value} (hp : w.cell? p = some v) : x.cell? p = some v :=
  (Below.cell h (World.block_lt_of_cell? w p hp)).trans hp

theorem ret_bool {a b : Bool} (h : a = b) : Ending.returned (.bool a) = .returned (.bool b) := by rw [h]
theorem ret_int {k : IntKind} {a b : Int} (h : a = b) : Ending.returned (.int k a) = .returned (.int k b) := by rw [h]

/-! ### A slice of ints that reads as a list -/
def IntsAt (w : World) (A : Option Addr) (n : Nat) (xs : List Int) : Prop :=
  xs.length = n ∧ n ≤ maxLen ∧ (0 < n → ∃ b off, A = some ⟨b, off, none⟩ ∧ ∀ j z, xs[j]? = some z → w.cell? ⟨b, off + j, none⟩ = some (.int .i64 z))

theorem IntsAt.ext {w w' : World} {A : Option Addr} {n : Nat} {xs : List Int} (h : IntsAt w A n xs) (hx : Ext w w') : IntsAt w' A n xs :=
  ⟨h.1, h.2.1, fun hn => by
    obtain ⟨b, off, ha, hc⟩ := h.2.2 hn
    exact ⟨b, off, ha, fun j z hz => hx.kept (hc j z hz)⟩⟩
/-- A store into another block leaves it. -/
theorem IntsAt.far {w : World} {A : Option Addr} {n : Nat} {xs : List Int} (h : IntsAt w A n xs) {p : Addr} (v : Value) (hp : ∀ ad, A = some ad → ad.block ≠ p.block) : IntsAt (w.setCell p v) A n xs :=
  ⟨h.1, h.2.1, fun hn => by
    obtain ⟨b, off, ha, hc⟩ := h.2.2 hn
    refine ⟨b, off, ha, fun j z hz => ?_⟩
    have hne : p ≠ (⟨b, off + j, none⟩ : Addr) := fun e => hp _ ha (by rw [e])
    exact (World.cell?_setCell_other w p _ v hne).trans (hc j z hz)⟩
theorem IntsAt.le {w : World} {A : Option Addr} {n : Nat} {xs : List Int} (h : IntsAt w A n xs) : n ≤ 9223372036854775807 := by
  have := h.2.1; unfold maxLen at this; omega
theorem IntsAt.len {w : World} {A : Option Addr} {n : Nat} {xs : List Int} (h : IntsAt w A n xs) : Hid (xs.length = n) := h.1
/-- What a round that reads element k is told. -/
theorem IntsAt.round {w : World} {A : Option Addr} {n k : Nat} {xs : List Int} (h : IntsAt w A n xs) (hk : k < n) :
    ∃ b off z, A = some ⟨b, off, none⟩ ∧ b < w.heap.size ∧ w.cell? ⟨b, off + k, none⟩ = some (.int .i64 z) ∧ Hid (xs[k]? = some z) := by
  obtain ⟨hl, _, hc⟩ := h
  obtain ⟨b, off, ha, hz⟩ := hc (by omega)
  have hx : xs[k]? = some (xs[k]'(by omega)) := List.getElem?_eq_getElem (by omega)
  exact ⟨b, off, _, ha, World.block_lt_of_cell? w _ (hz k _ hx), hz k _ hx, hx⟩

theorem IntsAt.nil (w : World) : IntsAt w none 0 [] := ⟨rfl, Nat.zero_le _, fun h => absurd h (by omega)⟩

/-! ### What is left of a list behind its first k -/
theorem drop_at {α : Type} {xs : List α} {k : Nat} {x : α} (h : Hid (xs[k]? = some x)) : xs.drop k = x :: xs.drop (k + 1) := by
  have h := h.out
  have hk : k < xs.length := by
    rcases Nat.lt_or_ge k xs.length with hk | hk
    · exact hk
    · rw [List.getElem?_eq_none hk] at h; cases h
  rw [List.drop_eq_getElem_cons hk]
  congr 1
  rw [List.getElem?_eq_getElem hk] at h
  injection h
theorem drop_end {α : Type} {xs : List α} {k n : Nat} (hl : Hid (xs.length = n)) (h : ¬ k < n) : xs.drop k = [] := by
  have := hl.out
  exact List.drop_eq_nil_of_le (by omega)

/-! ### A region that draws its order, whose operations read, and whose callees make memory: walked once, in the order of the text -/
theorem Ext.regrown {w : World} {d : Nat} {os : Array Obj} : Ext w (Go.Sort.grow (redrawn w d) os) := below_regrown w d os
theorem regrown_of {P : Program} {f : FuncId} {args : Array Value} {w : World} {d : Nat} {os : Array Obj} {v : Value}
    (h : Calls P f args (Go.Sort.grow (redrawn w d) os) fun e w' => e = .returned v ∧ Ext (Go.Sort.grow (redrawn w d) os) w') : Calls P f args (Go.Sort.grow (redrawn w d) os) fun e w'' => e = .returned v ∧ ∃ p : Regrown, w'' = Go.Sort.grow (redrawn w p.d) p.os := Calls.regrown_of h
theorem regrown_same {P : Program} {f : FuncId} {args : Array Value} {w : World} {d : Nat} {os : Array Obj} {v : Value}
    (h : Calls P f args (Go.Sort.grow (redrawn w d) os) fun e w' => e = .returned v ∧ Go.Sort.grow (redrawn w d) os = w') : Calls P f args (Go.Sort.grow (redrawn w d) os) fun e w'' => e = .returned v ∧ ∃ p : Regrown, w'' = Go.Sort.grow (redrawn w p.d) p.os := h.mono fun _ _ ⟨he, hw⟩ => ⟨he, ⟨d, os⟩, hw.symm⟩

end Go.Proofs.Ytejkmomfpidnbaa
