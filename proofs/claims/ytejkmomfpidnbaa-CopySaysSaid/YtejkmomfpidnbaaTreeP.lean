/- Trees in plain terms. No program is named here. -/
import Derived.Test.YtejkmomfpidnbaaAttrT
import Derived.Test.YtejkmomfpidnbaaCore
namespace Go.Proofs.Ytejkmomfpidnbaa
open Go.RowKit
set_option linter.unusedSimpArgs false
set_option linter.unusedVariables false
section
variable {P : Program} {B : Base} {N : Nat} {F : List (Nat × Value)} {V : View} {L : List Box}
variable {d : Option Tmp} {ty : TypeId} {pos : String} {af : Array Edge} {gd : Option (Nat × Bool)} {x y : Operand} {T : TypeId}
theorem q_indexAddr_e {E sz b o n c k : Nat} {A : Option Addr} (hu : UnderIs P T (.slice E)) (hS : SizeIs P E sz) (hx : evF F x = some (.slice A n c)) (hA : A = some ⟨b, o, none⟩) (hi : evF F y = some (.int .i64 (k : Int))) (hk : k < n) : QP P B N V L ⟨d, .indexAddr T x y, ty, pos, af, gd⟩ F (.pointer (some ⟨b, o + k * sz, none⟩)) := by
  subst hA; exact q_indexAddr hu hS hx hi hk
theorem q_indexAddr_ei {E sz b o n c : Nat} {i : Int} {A : Option Addr} (hu : UnderIs P T (.slice E)) (hS : SizeIs P E sz) (hx : evF F x = some (.slice A n c)) (hA : A = some ⟨b, o, none⟩) (hi : evF F y = some (.int .i64 i)) (hk : 0 ≤ i ∧ i < n) : QP P B N V L ⟨d, .indexAddr T x y, ty, pos, af, gd⟩ F (.pointer (some ⟨b, o + i.toNat * sz, none⟩)) := by
  subst hA; exact q_indexAddr_i hu hS hx hi hk
end
/-- What a node has beside its kids. -/
@[ext] structure Hd where
  kind : Int
  mode : Int
  user : Int
  group : Int
  opq : Bool
  attrs : List PA
  data : ByteArray
inductive PN where
  | mk (h : Hd) (ks : List (ByteArray × PN))
abbrev PKs := List (ByteArray × PN)
def PN.h : PN → Hd | .mk h _ => h
def PN.ks : PN → PKs | .mk _ ks => ks
@[simp] theorem PN.h_mk (h : Hd) (ks : PKs) : (PN.mk h ks).h = h := rfl
@[simp] theorem PN.ks_mk (h : Hd) (ks : PKs) : (PN.mk h ks).ks = ks := rfl
theorem PN.eta (n : PN) : PN.mk n.h n.ks = n := by cases n; rfl
theorem PN.lt_of_mem {h : Hd} {ks : PKs} {k : ByteArray × PN} (hk : k ∈ ks) : SizeOf.sizeOf k.2 < SizeOf.sizeOf (PN.mk h ks) := by
  have h1 := List.sizeOf_lt_of_mem hk
  obtain ⟨a, b⟩ := k
  simp only [Prod.mk.sizeOf_spec] at h1
  simp only [PN.mk.sizeOf_spec]
  omega
theorem PN.ind {p : PN → Prop} (h : ∀ hd ks, (∀ k ∈ ks, p k.2) → p (.mk hd ks)) (n : PN) : p n := by
  match n with
  | .mk hd ks => exact h hd ks fun k hk => PN.ind h k.2
termination_by SizeOf.sizeOf n
decreasing_by exact PN.lt_of_mem hk
/-- A node that has nothing. -/
def hZ : Hd := ⟨0, 0, 0, 0, false, [], ⟨#[]⟩⟩
def pnZ : PN := .mk hZ []
/-- What holds of each node of a tree. -/
inductive AllN (p : Hd → PKs → Prop) : PN → Prop
  | mk {h : Hd} {ks : PKs} (h1 : p h ks) (h2 : ∀ k ∈ ks, AllN p k.2) : AllN p (.mk h ks)
theorem AllN.here {p : Hd → PKs → Prop} {n : PN} (h : AllN p n) : p n.h n.ks := by cases h; assumption
theorem AllN.kid {p : Hd → PKs → Prop} {n : PN} (h : AllN p n) {k : ByteArray × PN} (hk : k ∈ n.ks) : AllN p k.2 := by cases h with | mk h1 h2 => exact h2 k hk
/-! ### Places among kids -/
def isAt (ks : PKs) (s : ByteArray) : Bool := ks.any fun k => decide (k.1 = s)
def atN (ks : PKs) (s : ByteArray) : Nat := ks.findIdx fun k => decide (k.1 = s)
def gtN (ks : PKs) (s : ByteArray) : Nat := ks.findIdx fun k => decide (s.toList < k.1.toList)
/-- Where a name is, or would be. -/
def placeN (ks : PKs) (s : ByteArray) : Nat := if isAt ks s = true then atN ks s else gtN ks s
theorem atN_lt {ks : PKs} {s : ByteArray} : isAt ks s = true ↔ atN ks s < ks.length := by
  unfold isAt atN; rw [List.findIdx_lt_length, List.any_eq_true]
theorem placeN_le (ks : PKs) (s : ByteArray) : placeN ks s ≤ ks.length := by
  unfold placeN; split
  · exact List.findIdx_le_length
  · exact List.findIdx_le_length
theorem placeN_lt {ks : PKs} {s : ByteArray} (h : isAt ks s = true) : placeN ks s < ks.length := by
  unfold placeN; rw [if_pos h]; exact atN_lt.1 h
theorem at_eq {ks : PKs} {s : ByteArray} {i : Nat} {k : ByteArray × PN} (hi : ks[i]? = some k) (he : k.1 = s) (hb : ∀ j k', j < i → ks[j]? = some k' → ¬ k'.1 = s) : isAt ks s = true ∧ atN ks s = i := by
  have hlt : i < ks.length := by
    rcases Nat.lt_or_ge i ks.length with h | h
    · exact h
    · rw [List.getElem?_eq_none h] at hi; cases hi
  have e : atN ks s = i := by
    unfold atN
    rw [List.findIdx_eq hlt]
    refine ⟨?_, fun j hj => ?_⟩
    · rw [List.getElem?_eq_getElem hlt] at hi; injection hi with hi; rw [hi]; exact decide_eq_true he
    · have := hb j (ks[j]'(by omega)) hj (List.getElem?_eq_getElem (by omega))
      exact decide_eq_false this
  exact ⟨atN_lt.2 (by omega), e⟩
theorem at_none {ks : PKs} {s : ByteArray} (hb : ∀ j k', j < ks.length → ks[j]? = some k' → ¬ k'.1 = s) : isAt ks s = false := by
  cases h : isAt ks s
  · rfl
  · have := atN_lt.1 h
    unfold isAt at h
    rw [List.any_eq_true] at h
    obtain ⟨k, hk, he⟩ := h
    obtain ⟨j, hj, rfl⟩ := List.getElem_of_mem hk
    exact absurd (of_decide_eq_true he) (hb j _ hj (List.getElem?_eq_getElem hj))
/-- The least of those from i on that is greater. -/
theorem gt_drop {ks : PKs} {s : ByteArray} {i : Nat} {k : ByteArray × PN} (hi : ks[i]? = some k) : i + gtN (ks.drop i) s = if s.toList < k.1.toList then i else (i + 1) + gtN (ks.drop (i + 1)) s := by
  have hlt : i < ks.length := by
    rcases Nat.lt_or_ge i ks.length with h | h
    · exact h
    · rw [List.getElem?_eq_none h] at hi; cases hi
  rw [List.getElem?_eq_getElem hlt] at hi; injection hi with hi
  rw [List.drop_eq_getElem_cons hlt, hi]
  unfold gtN
  rw [List.findIdx_cons]
  by_cases h : s.toList < k.1.toList
  · rw [if_pos h, decide_eq_true h]; rfl
  · rw [if_neg h, decide_eq_false h]
    simp only [cond_false]; omega
/-! ### Finding, changing -/
/-- The node at a place; none: there is none. -/
def findP : PN → List ByteArray → Option PN
  | n, [] => some n
  | n, s :: l => if n.h.kind = 2 ∧ isAt n.ks s = true then (match n.ks[placeN n.ks s]? with | some k => findP k.2 l | none => none) else none
/-- What one does at a place: put x there, or cut what is there away. -/
def editF (cut : Bool) (ks : PKs) (s : ByteArray) : Int := if cut = true then (if isAt ks s = true then 0 else 5) else if nameZ s.toList = true then 0 else 4
def editK (cut : Bool) (x : PN) (ks : PKs) (s : ByteArray) : PKs :=
  ks.take (placeN ks s) ++ (if cut = true then [] else [(s, x)]) ++ ks.drop (if isAt ks s = true then placeN ks s + 1 else placeN ks s)
def pF (cut : Bool) (x : PN) : PN → List ByteArray → Int
  | _, [] => 7
  | n, [s] => if n.h.kind = 2 then editF cut n.ks s else 7
  | n, s :: t :: l => if ¬ n.h.kind = 2 then 7 else if isAt n.ks s = true then (match n.ks[placeN n.ks s]? with | some k => pF cut x k.2 (t :: l) | none => 5) else 5
def pN (cut : Bool) (x : PN) : PN → List ByteArray → PN
  | n, [] => n
  | n, [s] => .mk n.h (editK cut x n.ks s)
  | n, s :: t :: l => match n.ks[placeN n.ks s]? with | some k => .mk n.h (n.ks.set (placeN n.ks s) (k.1, pN cut x k.2 (t :: l))) | none => n
def putP (cut : Bool) (x n : PN) (l : List ByteArray) : PN := if pF cut x n l = 0 then pN cut x n l else pnZ
theorem editF_bd (cut : Bool) (ks : PKs) (s : ByteArray) : 0 ≤ editF cut ks s ∧ editF cut ks s ≤ 7 := by unfold editF; (repeat' split) <;> omega
theorem pF_bd (cut : Bool) (x : PN) : ∀ (l : List ByteArray) (n : PN), 0 ≤ pF cut x n l ∧ pF cut x n l ≤ 7
  | [], n => by simp [pF]
  | [s], n => by
    simp only [pF]
    split
    · exact editF_bd _ _ _
    · omega
  | s :: t :: l, n => by
    rw [pF]
    split
    · omega
    · split
      · split
        · exact pF_bd cut x (t :: l) _
        · omega
      · omega
/-! ### What is wrong with a tree -/
def oneF (h : Hd) (many : Bool) (upper root : Bool) : Int :=
  if ¬ (h.kind = 1 ∨ h.kind = 2 ∨ h.kind = 3) then 3
  else if ¬ ((0 ≤ h.mode ∧ h.mode ≤ 4095) ∧ (0 ≤ h.user ∧ h.user ≤ 65535) ∧ (0 ≤ h.group ∧ h.group ≤ 65535)) then 1
  else if ¬ attrF h.attrs = 0 then attrF h.attrs
  else if 200 < h.data.size then 1
  else if (h.kind = 3 ∧ (upper = false ∨ 0 < h.mode + h.user + h.group + h.attrs.length)) ∨ (¬ h.kind = 1 ∧ 0 < h.data.size) ∨ (¬ h.kind = 2 ∧ (many = true ∨ h.opq = true)) ∨ (h.opq = true ∧ (upper = false ∨ root = true)) then 3
  else 0
mutual
/-- What is wrong with a tree, and how many nodes there are behind it. -/
def countF (upper : Bool) (deep so : Nat) : PN → Nat × Int
  | .mk h ks => if so = 60 ∨ 6 < deep then (so, 2) else if ¬ oneF h (decide (0 < ks.length)) upper (decide (deep = 0)) = 0 then (so, oneF h (decide (0 < ks.length)) upper (decide (deep = 0))) else countK upper deep (so + 1) none ks
termination_by n => SizeOf.sizeOf n
def countK (upper : Bool) (deep so : Nat) (prev : Option ByteArray) : PKs → Nat × Int
  | [] => (so, 0)
  | (nm, n) :: ks => if ¬ nameZ nm.toList = true then (so, 4) else if (∃ y, prev = some y ∧ ¬ y.toList < nm.toList) then (so, 3) else if ¬ (countF upper (deep + 1) so n).2 = 0 then countF upper (deep + 1) so n else countK upper deep (countF upper (deep + 1) so n).1 (some nm) ks
termination_by ks => SizeOf.sizeOf ks
end
def treeF (upper : Bool) (n : PN) : Int := if ¬ n.h.kind = 2 then 7 else (countF upper 0 0 n).2
end Go.Proofs.Ytejkmomfpidnbaa
